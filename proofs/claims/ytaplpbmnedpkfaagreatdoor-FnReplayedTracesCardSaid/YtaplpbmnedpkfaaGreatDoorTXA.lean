import Derived.WalkKit
import Derived.KernelRfl
import Derived.Laws.AppendOwn
import Derived.Laws.MakeOwn
import Derived.Laws.OwnMore
import Derived.ArgAppend
set_option linter.unusedSimpArgs false
set_option linter.unusedVariables false
open Nat renaming eq_of_beq_eq_true → q8
open Option.some renaming injEq → q9
open Bool renaming and_eq_true → w5
open List renaming length_append → w6
open List renaming length_take → w7
open List renaming mem_append_right → w8
open Array renaming toArray_toList → w9
open List renaming mem_append → z1
open List renaming map_cons → z6
open List renaming getElem?_eq_some_iff → z7
open List renaming replicate → z8
open Prod.mk renaming injEq → j6
open Nat renaming le_of_ble_eq_true → j7
open List renaming mem_singleton → j8
open List renaming length_set → j9
namespace Go.SX
open Go.RowKit
inductive CTy where
 |int (k:IntKind)
 |bool
 |str
 |pair (a b:CTy)
 |sl (e:TypeId) (t:CTy)
 |fn
 deriving DecidableEq
def E:CTy→Type
 | .int _=>Int
 | .bool=>Bool
 | .str=>ByteArray
 | .pair a b=>E a×E b
 | .sl _ t=>List (E t)
 | .fn=>Unit
def CTy.size:CTy→Nat
 | .pair a b=>a.size + b.size
 |_=>1
structure GEnt where
 g:Nat
 T:TypeId
 e:TypeId
 t:CTy
 xs:List (E t)
def Yf:List ByteArray:= [⟨#[97,114,114,105,118,101]⟩,⟨#[114,101,108,101,97,115,101]⟩,⟨#[98,108,105,110,100]⟩,⟨#[101,110,116,101,114]⟩,⟨#[99,108,101,97,114]⟩,⟨#[111,99,99,117,112,105,101,100]⟩,⟨#[115,101,99,111,110,100]⟩]
def adc:List Int:= [1,10,100,1000,10000,100000,1000000,10000000,100000000,1000000000,10000000000,100000000000,1000000000000,10000000000000,100000000000000,1000000000000000,10000000000000000,100000000000000000,1000000000000000000,10000000000000000000]
def GT:List GEnt:= [⟨0,129,9,.str,Yf⟩,⟨1,153,143,.int .u64,adc⟩]
def GV:List Nat:= []
end Go.SX
namespace Go.SX
open Go.RowKit
def JG(P:Program){α:Type}:Sem α→Option α
 | .pure a=>some a
 | .program k=>JG P (k P)
 | .mark _ k=>JG P k
 |_=>none
theorem NY(P:Program){α:Type}: ∀ (s:Sem α) (v:α),JG P s=some v→ ∀ w,s.run P w= .ok v w
 | .pure a,v,h,w=>by simp [JG]at h;subst h;rfl
 | .program k,v,h,w=>by simp only [JG]at h;simp only [Sem.run];exact NY P _ v h w
 | .mark _ k,v,h,w=>by simp only [JG]at h;simp only [Sem.run];exact NY P _ v h w
 | .load ..,v,h,w | .store ..,v,h,w | .new ..,v,h,w | .shape ..,v,h,w | .freeze ..,v,h,w | .frozen ..,v,h,w | .getObj ..,v,h,w
 | .setObj ..,v,h,w | .choose ..,v,h,w | .sys ..,v,h,w | .halt _,v,h,w=>by simp [JG]at h
def CU:Value→Value
 | .slice a n c=> .slice a n c
 | .pointer a=> .pointer a
 | .func f a b=> .func f a b
 | .nilFunc=> .nilFunc
 |_=> .slice none 0 0
def CTy.flat:CTy→Bool
 | .pair a b=>a.flat&&b.flat
 | .sl _ _=>false
 | .fn=>false
 |_=>true
def tC:(t:CTy)→E t
 | .int _=>(0:Int)
 | .bool=>false
 | .str=>ByteArray.empty
 | .pair a b=>(tC a,tC b)
 | .sl _ _=> []
 | .fn=>()
def RP:(t:CTy)→E t→List Value
 | .int k,x=> [.int k x]
 | .bool,b=> [.bool b]
 | .str,s=> [.string s]
 | .pair a b,p=>RP a p.1++RP b p.2
 | .sl _ _,_=> [undef]
 | .fn,_=> [undef]
def PQ(v:Value):Prop:=v= .slice none 0 0∨ ∃ a,v= .slice (some a) 0 0
def Yp{α:Type}(p:List Value→α→Prop)(z:Nat)(H:Nat→Option Obj)(v:Value)(xs:List α):Prop:=
 (PQ v∧xs= [])∨
 ∃ b off cap arr T fz,v= .slice (some ⟨b,off,none⟩) xs.length cap∧xs.length≤cap∧cap≤maxLen∧H b=some (.cells arr T fz)∧(∀ i x,xs[i]? =some x→p ((arr.toList.drop (off + i * z)).take z) x)
theorem Yp.mono{α:Type}{p p':List Value→α→Prop}{z:Nat}{H H':Nat→Option Obj}(hp: ∀ cs x,p cs x→p' cs x)(h: ∀ b o,H b=some o→H' b=some o){v:Value}{xs:List α}(hr:Yp p z H v xs):Yp p' z H' v xs:=
 hr.imp id fun⟨b,off,cap,arr,T,fz,h1,h2,h3,h4,h5⟩=>⟨b,off,cap,arr,T,fz,h1,h2,h3,h _ _ h4,fun i x hx=>hp _ _ (h5 i x hx)⟩
def Rep(H:Nat→Option Obj):(t:CTy)→List Value→E t→Prop
 | .int k,cs,(x:Int)=>cs= [.int k x]
 | .bool,cs,(b:Bool)=>cs= [.bool b]
 | .str,cs,(s:ByteArray)=>cs= [.string s]
 | .pair a b,cs,(p:E a×E b)=> ∃ c1 c2,cs=c1++c2∧Rep H a c1 p.1∧Rep H b c2 p.2
 | .sl _ t,cs,(xs:List (E t))=> ∃ v,cs= [v]∧Yp (Rep H t) t.size H v xs
 | .fn,cs,_=> ∃ v,cs= [v]∧CU v=v
theorem Rep.mono{H H':Nat→Option Obj}(h: ∀ b o,H b=some o→H' b=some o): ∀ (t:CTy) (cs:List Value) (x:E t),Rep H t cs x→Rep H' t cs x
 | .int _,_,_,hr=>by simp only [Rep]at hr ⊢;exact hr
 | .bool,_,_,hr=>by simp only [Rep]at hr ⊢;exact hr
 | .str,_,_,hr=>by simp only [Rep]at hr ⊢;exact hr
 | .pair a b,_,_,hr=>by
  simp only [Rep]at hr ⊢
  obtain⟨c1,c2,e,h1,h2⟩:=hr
  exact⟨c1,c2,e,Rep.mono h a _ _ h1,Rep.mono h b _ _ h2⟩
 | .sl _ t,_,_,hr=>by
  simp only [Rep]at hr ⊢
  obtain⟨v,e,hv⟩:=hr
  exact⟨v,e,hv.mono (Rep.mono h t) h⟩
 | .fn,_,_,hr=>by simp only [Rep]at hr ⊢;exact hr
def BQ(H:Nat→Option Obj)(t:CTy)(v:Value)(xs:List (E t)):Prop:=Yp (Rep H t) t.size H v xs
theorem BQ.mono{H H':Nat→Option Obj}(h: ∀ b o,H b=some o→H' b=some o){t:CTy}{v:Value}{xs:List (E t)}(hr:BQ H t v xs):BQ H' t v xs:=
 Yp.mono (Rep.mono h t) h hr
theorem Rep.flat{H:Nat→Option Obj}: ∀ (t:CTy) (cs:List Value) (x:E t),t.flat=true→Rep H t cs x→cs=RP t x
 | .int _,_,_,_,h=>by simp only [Rep]at h;exact h
 | .bool,_,_,_,h=>by simp only [Rep]at h;exact h
 | .str,_,_,_,h=>by simp only [Rep]at h;exact h
 | .pair a b,_,_,hf,h=>by
  simp only [Rep]at h
  obtain⟨c1,c2,e,h1,h2⟩:=h
  simp only [CTy.flat,w5]at hf
  rw [e,Rep.flat a _ _ hf.1 h1,Rep.flat b _ _ hf.2 h2];rfl
 | .sl _ _,_,_,hf,_=>by cases hf
 | .fn,_,_,hf,_=>by cases hf
theorem Rep.of_flat{H:Nat→Option Obj}: ∀ (t:CTy) (x:E t),t.flat=true→Rep H t (RP t x) x
 | .int _,_,_=>by simp only [Rep];rfl
 | .bool,_,_=>by simp only [Rep];rfl
 | .str,_,_=>by simp only [Rep];rfl
 | .pair a b,p,hf=>by
  simp only [CTy.flat,w5]at hf
  simp only [Rep]
  exact⟨_,_,rfl,Rep.of_flat a p.1 hf.1,Rep.of_flat b p.2 hf.2⟩
 | .sl _ _,_,hf=>by cases hf
 | .fn,_,hf=>by cases hf
def GlOk(mem:Nat→Option Obj):Prop:=(∀ x∈GT,x.xs.length≤maxLen∧ ∃ arr T fz,mem x.g=some (.cells arr T fz)∧arr.size=x.xs.length * x.t.size∧ ∀ i y,x.xs[i]? =some y→Rep mem x.t ((arr.toList.drop (i * x.t.size)).take x.t.size) y)∧ ∀ g∈GV,∃ T fz v,mem g=some (.cells #[v] T fz)∧(v= .nilIface∨ ∃ t p,v= .iface t p)
theorem GlOk.mono{H H':Nat→Option Obj}(h: ∀ b o,H b=some o→H' b=some o)(hg:GlOk H):GlOk H':=⟨fun x hx=>
 let ⟨h0,arr,T,fz,h1,hs,h2⟩:=hg.1 x hx
 ⟨h0,arr,T,fz,h _ _ h1,hs,fun i y hy=>Rep.mono h _ _ _ (h2 i y hy)⟩,fun g hx=>
 let ⟨T,fz,v,h1,h2⟩:=hg.2 g hx
 ⟨T,fz,v,h _ _ h1,h2⟩⟩
structure Nm where
 nm:Nat→Value
 mem:Nat→Option Obj
 fp:Nat→List Nat
def Nm.of(ρ:Nm)(i:Nat):Value:=CU (ρ.nm i)
instance:CoeFun Nm (fun _=>Nat→Value):=⟨Nm.of⟩
theorem CV(v:Value):CU (CU v)=CU v:=by cases v <;> rfl
theorem RC(v:Value):(CU v).oneCell'=true:=by cases v <;> rfl
theorem UV(v:Value):(CU v).cells= #[CU v]:=by cases v <;> rfl
def FX:Value→Nat
 | .pointer (some a)=>a.block
 | .slice (some a) _ _=>a.block
 |_=>0
def NS:Value→Nat
 | .slice (some a) _ _=>a.off
 |_=>0
def fZ:Value→List Nat
 | .pointer (some a)=> [a.block]
 | .slice (some a) _ c=>bif Nat.beq c 0 then []else [a.block]
 |_=> []
theorem RM{v:Value}(h:PQ v):fZ v= []:=by
 rcases h with rfl | ⟨b,rfl⟩ <;> rfl
theorem pO{a:Addr}{n c:Nat}(h:0 < c):fZ (.slice (some a) n c)= [a.block]:=by
 cases c with
 |zero=>omega
 |succ c=>rfl
inductive Cell where
 |val (v:Value)
 |ptr (id off:Nat)
 |ref (id:Nat)
 |el (id z i off:Nat)
 |vw (id z k:Nat)
 |clo (f:FuncId) (caps:List Nat)
 |bnd (f:FuncId) (vs:List (Nat×Option Value))
def vwN(z k:Nat):Value→Value
 | .slice b n c=>if z=0 then .slice b k c else .slice (if c=k then b else b.map (·.add (k * z))) (n - k) (c - k)
 |v=>v
def bcV(ρ:Nm):Nat×Option Value→Value
 |(id,none)=>ρ id
 |(_,some v)=>v
def Kf:List (Nat×Option Value)→List Nat
 | []=> []
 |(id,none)::r=>id::Kf r
 |(_,some _)::r=>Kf r
theorem RL{ρ ρ':Nm}: ∀ {vs:List (Nat×Option Value)},(∀ id∈Kf vs,ρ' id=ρ id)→vs.map (bcV ρ')=vs.map (bcV ρ)
 | [],_=>rfl
 |(id,none)::r,h=>by
  rw [z6,z6,RL (vs:=r) fun i hi=>h i (List.mem_cons_of_mem _ hi)]
  simp only [bcV,h id (List.mem_cons_self ..)]
 |(id,some v)::r,h=>by
  rw [z6,z6,RL (vs:=r) fun i hi=>h i hi]
  rfl
def Cell.conc(ρ:Nm):Cell→Value
 | .val v=>v
 | .ptr id off=> .pointer (some ⟨FX (ρ id),off,none⟩)
 | .ref id=>ρ id
 | .el id z i off=> .pointer (some ⟨FX (ρ id),NS (ρ id) + (i * z + off),none⟩)
 | .vw id z k=>CU (vwN z k (ρ id))
 | .clo f caps=> .func (.func f) #[] (caps.map fun id=>Value.pointer (some ⟨FX (ρ id),0,none⟩)).toArray
 | .bnd f vs=> .func (.func f) #[.agg (vs.map (bcV ρ)).toArray] #[]
def Cell.inU(U:Nat→Bool):Cell→Prop
 | .val _=>True
 | .ptr id _=>U id=true
 | .ref id=>U id=true
 | .el id _ _ _=>U id=true
 | .vw id _ _=>U id=true
 | .clo _ caps=> ∀ id∈caps,U id=true
 | .bnd _ vs=> ∀ id∈Kf vs,U id=true
theorem Cell.conc_congr{ρ ρ':Nm}{U:Nat→Bool}(h: ∀ id,U id=true→ρ' id=ρ id){c:Cell}(hc:c.inU U):c.conc ρ'=c.conc ρ:=by
 cases c with
 |val v=>rfl
 |ptr id off=>simp only [Cell.conc];rw [h id hc]
 |ref id=>exact h id hc
 |el id z i off=>simp only [Cell.conc];rw [h id hc]
 |vw id z k=>simp only [Cell.conc];rw [h id hc]
 |clo f caps=>
  simp only [Cell.conc]
  rw [List.map_congr_left fun id iU=>by rw [h id (hc id iU)]]
 |bnd f vs=>
  simp only [Cell.conc]
  rw [RL fun id iU=>h id (hc id iU)]
theorem Cell.inU_mono{U U':Nat→Bool}(h: ∀ id,U id=true→U' id=true){c:Cell}(hc:c.inU U):c.inU U':=by
 cases c with
 |val v=>trivial
 |ptr id off=>exact h id hc
 |ref id=>exact h id hc
 |el id z i off=>exact h id hc
 |vw id z k=>exact h id hc
 |clo f caps=>exact fun id iU=>h id (hc id iU)
 |bnd f vs=>exact fun id iU=>h id (hc id iU)
structure V1 where
 agg:Bool
 cs:List Cell
def V1.conc(ρ:Nm)(v:V1):Value:=
 match v.agg,v.cs with
 |true,cs=> .agg (cs.map (Cell.conc ρ)).toArray
 |false,[c]=>c.conc ρ
 |false,_=>undef
def V1.inU(U:Nat→Bool)(v:V1):Prop:= ∀ c∈v.cs,c.inU U
theorem rB{ρ ρ':Nm}{U:Nat→Bool}(h: ∀ id,U id=true→ρ' id=ρ id){cs:List Cell}(hc: ∀ c∈cs,c.inU U):cs.map (Cell.conc ρ')=cs.map (Cell.conc ρ):=
 List.map_congr_left fun c hm=>Cell.conc_congr h (hc c hm)
theorem V1.conc_congr{ρ ρ':Nm}{U:Nat→Bool}(h: ∀ id,U id=true→ρ' id=ρ id){v:V1}(hc:v.inU U):v.conc ρ'=v.conc ρ:=by
 obtain⟨g,cs⟩:=v
 cases g with
 |true=>simp only [V1.conc];rw [rB h hc]
 |false=>
  match cs,hc with
  | [],_=>rfl
  | [c],hc=>exact Cell.conc_congr h (hc c (by simp))
  |_::_::_,_=>rfl
inductive SV where
 |one (v:V1)
 |tup (vs:List V1)
def SV.conc(ρ:Nm):SV→Value
 | .one v=>v.conc ρ
 | .tup vs=> .tuple (vs.map (V1.conc ρ)).toArray
def SV.inU(U:Nat→Bool):SV→Prop
 | .one v=>v.inU U
 | .tup vs=> ∀ v∈vs,v.inU U
theorem SV.conc_congr{ρ ρ':Nm}{U:Nat→Bool}(h: ∀ id,U id=true→ρ' id=ρ id){v:SV}(hc:v.inU U):v.conc ρ'=v.conc ρ:=by
 cases v with
 |one v=>exact V1.conc_congr h hc
 |tup vs=>simp only [SV.conc];rw [List.map_congr_left fun v hv=>V1.conc_congr h (hc v hv)]
theorem V1.inU_mono{U U':Nat→Bool}(h: ∀ id,U id=true→U' id=true){v:V1}(hc:v.inU U):v.inU U':=fun c hm=>Cell.inU_mono h (hc c hm)
theorem SV.inU_mono{U U':Nat→Bool}(h: ∀ id,U id=true→U' id=true){v:SV}(hc:v.inU U):v.inU U':=by
 cases v with
 |one v=>exact V1.inU_mono h hc
 |tup vs=>exact fun v hv=>V1.inU_mono h (hc v hv)
def V1.ofValue:Value→V1
 | .agg a=>⟨true,a.toList.map .val⟩
 |v=>⟨false,[.val v]⟩
def SV.ofValue:Value→SV
 | .tuple a=> .tup (a.toList.map V1.ofValue)
 |v=> .one (V1.ofValue v)
theorem V1.conc_ofValue(ρ:Nm)(v:Value):(V1.ofValue v).conc ρ=v:=by
 cases v with
 |agg a=>
  simp only [V1.ofValue,V1.conc,List.map_map]
  congr 1
  rw [show (Cell.conc ρ ∘ Cell.val)=id from rfl,List.map_id]
 |_=>rfl
theorem V1.ofValue_inU(U:Nat→Bool)(v:Value):(V1.ofValue v).inU U:=by
 cases v with
 |agg a=>intro c hc;simp only [V1.ofValue,List.mem_map]at hc;obtain⟨x,_,rfl⟩:=hc;trivial
 |_=>intro c hc;simp only [V1.ofValue,j8]at hc;subst hc;trivial
theorem SV.conc_ofValue(ρ:Nm)(v:Value):(SV.ofValue v).conc ρ=v:=by
 cases v with
 |tuple a=>
  simp only [SV.ofValue,SV.conc,List.map_map]
  congr 1
  rw [show (V1.conc ρ ∘ V1.ofValue)=id from funext fun v=>V1.conc_ofValue ρ v,List.map_id]
 |_=>simp only [SV.ofValue,SV.conc];exact V1.conc_ofValue ρ _
theorem SV.ofValue_inU(U:Nat→Bool)(v:Value):(SV.ofValue v).inU U:=by
 cases v with
 |tuple a=>intro u hu;simp only [List.mem_map]at hu;obtain⟨x,_,rfl⟩:=hu;exact V1.ofValue_inU U x
 |_=>simp only [SV.ofValue,SV.inU];exact V1.ofValue_inU U _
def Cell.toValue? :Cell→Option Value
 | .val v=>some v
 |_=>none
def LH:List Cell→Option (List Value)
 | []=>some []
 |c::cs=>match c.toValue?,LH cs with
  |some v,some vs=>some (v::vs)
  |_,_=>none
theorem Ie(ρ:Nm): ∀ {cs:List Cell} {vs:List Value},LH cs=some vs→cs.map (Cell.conc ρ)=vs
 | [],vs,h=>by simp [LH]at h;simp [h]
 |c::cs,vs,h=>by
  simp only [LH]at h
  split at h
  ·rename_i v vs' hv VJ
   cases h
   simp only [z6,Ie ρ VJ]
   cases c with
   |val u=>simp [Cell.toValue?]at hv;simp [Cell.conc,hv]
   |_=>simp [Cell.toValue?]at hv
  ·cases h
def V1.toValue?(v:V1):Option Value:=
 match v.agg,v.cs with
 |true,cs=>(LH cs).map fun vs=> .agg vs.toArray
 |false,[.val v]=>some v
 |_,_=>none
theorem V1.toValue?_conc(ρ:Nm){v:V1}{x:Value}(h:v.toValue? =some x):v.conc ρ=x:=by
 obtain⟨g,cs⟩:=v
 simp only [V1.toValue?]at h
 split at h
 ·cases hv:LH cs with
  |none=>simp [hv]at h
  |some vs=>simp [hv]at h;subst h;simp only [V1.conc,Ie ρ hv]
 ·cases h;rfl
 ·cases h
def SV.toValue? :SV→Option Value
 | .one v=>v.toValue?
 | .tup _=>none
theorem SV.toValue?_conc(ρ:Nm){v:SV}{x:Value}(h:v.toValue? =some x):v.conc ρ=x:=by
 cases v with
 |one v=>exact V1.toValue?_conc ρ h
 |tup vs=>simp [SV.toValue?]at h
structure SS where
 g:Option (Nat×Bool)
 v:SV
def yl(tmps:Array Value)(j:Nat):Option Bool:=
 match tmps[j]? with
 |some (.bool b)=>some b
 |_=>none
def SS.at(ρ:Nm)(tmps:Array Value)(x:SS):Value:=
 match x.g with
 |none=>x.v.conc ρ
 |some (j,b)=>if yl tmps j=some b then x.v.conc ρ else undef
inductive Entry where
 |box (T:TypeId) (cs:List Cell)
 |row (own:Bool) (e:TypeId) (t:CTy) (xs:List (E t))
 |tree (e:TypeId) (t:CTy) (xs:List (E t)) (hole:Option (Nat×List Cell))
 |wk (e:TypeId) (t:CTy) (xs:List (E t))
 |gone
structure St where
 look:Nat→Option SS
 ent:Nat→Option Entry
 used:Nat→Bool
 wr:Nat→Bool
 next:Nat
 log:List Nat
 logE:List Nat
structure Base where
 n:Nat
 w0:World
 mem:Nat→Option Obj
 sl:Nat→Option Value
 W:Nat→Bool
 hW: ∀ k,W k=true→k < n∧sl k=none
def iT(H:Nat→Option Obj)(t:CTy)(cs:List Value)(xs:List (E t)):Prop:=cs.length=xs.length * t.size∧ ∀ i x,xs[i]? =some x→Rep H t ((cs.drop (i * t.size)).take t.size) x
theorem iT.mono{H H':Nat→Option Obj}(h: ∀ b o,H b=some o→H' b=some o){t:CTy}{cs:List Value}{xs:List (E t)}(hr:iT H t cs xs):iT H' t cs xs:=
 ⟨hr.1,fun i x hx=>Rep.mono h _ _ _ (hr.2 i x hx)⟩
def xZ(w:World)(e:TypeId)(z:Nat)(v:Value)(n:Nat)(cs:List Value):Prop:=cs.length=n * z∧((PQ v∧n=0)∨ ∃ g cap cur,v= .slice (some ⟨g,0,none⟩) n cap∧0 < cap∧w.heap[g]? =some (.cells cur e (0,0))∧n≤cap∧cap≤maxLen∧cur.size=cap * z∧cur.toList.take (n * z)=cs)
theorem Fw{w:World}{base:Nat}{e:TypeId}{z:Nat}{v:Value}{n:Nat}{cs:List Value}(h:w.ownsRow base e z v n cs):xZ w e z v n cs:=by
 refine⟨h.1,?_⟩
 rcases h.2 with⟨h1,h2⟩ | ⟨g,cap,cur,h1,_,h2,h3,h4,h5,h6⟩
 ·exact .inl ⟨.inl h1,h2⟩
 ·by_cases hc:cap=0
  ·subst hc
   have:n=0:=by omega
   subst this
   exact .inl ⟨.inr ⟨_,h1⟩,rfl⟩
  ·exact .inr ⟨g,cap,cur,h1,by omega,h2,h3,h4,h5,h6⟩
theorem ZT{w:World}{e:TypeId}{z:Nat}{v:Value}{n:Nat}{cs:List Value}(h:xZ w e z v n cs):(PQ v∧n=0∧cs= [])∨(w.ownsRow 0 e z v n cs∧ ∃ g cap,v= .slice (some ⟨g,0,none⟩) n cap∧0 < cap):=by
 rcases h.2 with⟨h1,h2⟩ | ⟨g,cap,cur,h1,h0,h2,h3,h4,h5,h6⟩
 ·refine .inl ⟨h1,h2,List.length_eq_zero_iff.1 ?_⟩
  rw [h.1,h2,Nat.zero_mul]
 ·exact .inr ⟨⟨h.1,.inr ⟨g,cap,cur,h1,Nat.zero_le _,h2,h3,h4,h5,h6⟩⟩,g,cap,h1,h0⟩
theorem Lb(w:World)(e:TypeId)(z:Nat):xZ w e z (.slice none 0 0) 0 []:=⟨by simp,.inl ⟨.inl rfl,rfl⟩⟩
def oo(w:World):(t:CTy)→List Value→E t→List Nat→Prop
 | .int k,cs,(x:Int),L=>cs= [.int k x]∧L= []
 | .bool,cs,(b:Bool),L=>cs= [.bool b]∧L= []
 | .str,cs,(s:ByteArray),L=>cs= [.string s]∧L= []
 | .pair a b,cs,(p:E a×E b),L=> ∃ c1 c2 L1 L2,cs=c1++c2∧L=L1++L2∧oo w a c1 p.1 L1∧oo w b c2 p.2 L2∧ ∀ k∈L1,k∉L2
 | .sl e t,cs,(xs:List (E t)),L=> ∃ v ds,cs= [v]∧L=fZ v∧t.flat=true∧xZ w e t.size v xs.length ds∧iT (fun _=>none) t ds xs
 | .fn,cs,_,L=>(∃ v,cs= [v]∧CU v=v)∧L= []
def HI(w:World)(ρ:Nm)(t:CTy)(cs:List Value)(xs:List (E t))(Ls:List (List Nat))(h:Option (Nat×List Cell)):Prop:=Ls.length=xs.length∧(∀ k hc,h=some (k,hc)→k < xs.length∧Ls[k]? =some []∧(cs.drop (k * t.size)).take t.size=hc.map (Cell.conc ρ))∧(∀ i x l,(∀ k hc,h=some (k,hc)→i≠k)→xs[i]? =some x→Ls[i]? =some l→oo w t ((cs.drop (i * t.size)).take t.size) x l)∧(∀ (i j:Nat) l l' k,Ls[i]? =some l→Ls[j]? =some l'→k∈l→k∈l'→i=j)
def ol{α:Type}:List (List α)→List α
 | []=> []
 |a::r=>a++ol r
theorem mb{α:Type}{i:α}: ∀ {l:List (List α)},i∈ol l↔ ∃ (k:Nat) (x:List α),l[k]? =some x∧i∈x
 | []=>by simp [ol]
 |a::r=>by
  simp only [ol,z1,mb (l:=r)]
  constructor
  ·rintro(h | ⟨k,x,h1,h2⟩)
   ·exact⟨0,a,rfl,h⟩
   ·exact⟨k + 1,x,h1,h2⟩
  ·rintro⟨k,x,h1,h2⟩
   cases k with
   |zero=>simp at h1;subst h1;exact .inl h2
   |succ k=>exact .inr ⟨k,x,h1,h2⟩
def Vr(w:World)(b:Nat):Option Obj:=
 match w.heap[b]? with
 |some (.cells a T (0,0))=>some (.cells a T (0,0))
 |_=>none
def unf(o:Obj):Prop:= ∃ a T,o= .cells a T (0,0)
theorem Oa{w:World}{b:Nat}{o:Obj}:Vr w b=some o↔w.heap[b]? =some o∧unf o:=by
 unfold Vr
 constructor
 ·intro h
  split at h
  ·rename_i a T hb;cases h;exact⟨hb,a,T,rfl⟩
  ·cases h
 ·rintro⟨h,a,T,rfl⟩
  simp [h]
theorem acr{w w':World}{t:CTy}{v:Value}{xs:List (E t)}(hf:t.flat=true)(h:BQ (Vr w) t v xs)(hk: ∀ b∈fZ v,w'.heap[b]? =w.heap[b]?):BQ (Vr w') t v xs:=by
 rcases h with h | ⟨b,off,cap,arr,T,fz,h1,h2,h3,h4,h5⟩
 ·exact .inl h
 ·by_cases hc:cap=0
  ·subst hc
   have hn:xs.length=0:=by omega
   exact .inl ⟨.inr ⟨_,by rw [h1,hn]⟩,List.length_eq_zero_iff.1 hn⟩
  ·refine .inr ⟨b,off,cap,arr,T,fz,h1,h2,h3,?_,fun i x hx=> ?_⟩
   ·obtain⟨g1,g2⟩:=Oa.1 h4
    exact Oa.2 ⟨by rw [hk b (by rw [h1,pO (by omega)];simp)];exact g1,g2⟩
   ·rw [Rep.flat t _ _ hf (h5 i x hx)]
    exact Rep.of_flat t x hf
theorem abJ{w:World}{t:CTy}{v:Value}{xs:List (E t)}(h:BQ (Vr w) t v xs){b:Nat}(hb:b∈fZ v): ∃ o,w.heap[b]? =some o∧unf o:=by
 rcases h with⟨h,_⟩ | ⟨b',off,cap,arr,T,fz,h1,h2,h3,h4,h5⟩
 ·rw [RM h]at hb;cases hb
 ·rw [h1]at hb
  have hbb:b=b':=by
   simp only [fZ]at hb
   cases hq:Nat.beq cap 0 with
   |true=>rw [hq]at hb;cases hb
   |false=>rw [hq]at hb;simpa using hb
  subst hbb
  exact⟨_,Oa.1 h4⟩
def Entry.holds(B:Base)(ρ:Nm)(w:World)(id:Nat):Entry→Prop
 | .box T cs=> ∃ b,ρ id= .pointer (some ⟨b,0,none⟩)∧w.heap[b]? =some (.cells (cs.map (Cell.conc ρ)).toArray T (0,0))∧B.mem b=none∧ρ.mem b=none
 | .row false _ t xs=>BQ ρ.mem t (ρ id) xs
 | .row true e t xs=> ∃ cs,xZ w e t.size (ρ id) xs.length cs∧iT ρ.mem t cs xs∧ ∀ b∈fZ (ρ id),B.mem b=none∧ρ.mem b=none
 | .tree e t xs h=> ∃ cs Ls,xZ w e t.size (ρ id) xs.length cs∧HI w ρ t cs xs Ls h∧ρ.fp id=ol Ls∧(∀ b∈fZ (ρ id),b∉ρ.fp id)∧ ∀ b∈fZ (ρ id)++ρ.fp id,B.mem b=none∧ρ.mem b=none
 | .wk _ t xs=>t.flat=true∧BQ (Vr w) t (ρ id) xs∧ ∀ b∈fZ (ρ id),B.mem b=none∧ρ.mem b=none
 | .gone=>True
def Entry.ob(ρ:Nm)(id:Nat):Entry→List Nat
 | .box _ _=>fZ (ρ id)
 | .row true _ _ _=>fZ (ρ id)
 | .tree _ _ _ _=>fZ (ρ id)++ρ.fp id
 | .wk _ _ _=>fZ (ρ id)
 |_=> []
def Entry.inU(U:Nat→Bool):Entry→Prop
 | .box _ cs=> ∀ c∈cs,c.inU U
 | .tree _ _ _ (some (_,cs))=> ∀ c∈cs,c.inU U
 |_=>True
structure Frm (B:Base) (ρ:Nm) (w:World):Prop where
 os:w.os=B.w0.os
 tape:w.tape=B.w0.tape
 output:w.output=B.w0.output
 size:B.w0.heap.size≤w.heap.size
 mem: ∀ b o,B.mem b=some o→w.heap[b]? =some o
 dat: ∀ b o,ρ.mem b=some o→w.heap[b]? =some o
 gl:GlOk ρ.mem
structure Ext (B:Base) (U:Nat→Bool) (ρ ρ':Nm):Prop where
 nm: ∀ id,U id=true→ρ' id=ρ id
 old: ∀ b o,ρ.mem b=some o→ρ'.mem b=some o
 new: ∀ b o,ρ'.mem b=some o→ρ.mem b=some o∨(B.mem b=none∧unf o)
theorem Ext.refl(B:Base)(U:Nat→Bool)(ρ:Nm):Ext B U ρ ρ:=⟨fun _ _=>rfl,fun _ _ h=>h,fun _ _ h=> .inl h⟩
theorem Ext.trans{B:Base}{U U':Nat→Bool}{ρ ρ' ρ'':Nm}(h:Ext B U ρ ρ')(h':Ext B U' ρ' ρ'')(hU: ∀ id,U id=true→U' id=true):Ext B U ρ ρ'':=
 ⟨fun id iU=>(h'.nm id (hU id iU)).trans (h.nm id iU),fun b o hb=>h'.old b o (h.old b o hb),fun b o hb=>(h'.new b o hb).elim (h.new b o) .inr⟩
theorem Ext.sub{B:Base}{U U':Nat→Bool}{ρ ρ':Nm}(h:Ext B U' ρ ρ')(hU: ∀ id,U id=true→U' id=true):Ext B U ρ ρ':=
 ⟨fun id iU=>h.nm id (hU id iU),h.old,h.new⟩
structure Hp (B:Base) (ρ:Nm) (ent:Nat→Option Entry) (used:Nat→Bool) (w:World):Prop where
 he: ∀ id e,ent id=some e→e.holds B ρ w id∧used id=true∧e.inU used
 hi: ∀ id id' e e' b,ent id=some e→ent id'=some e'→b∈e.ob ρ id→b∈e'.ob ρ id'→id=id'
 hf:Frm B ρ w
structure Mdl (B:Base) (ρ:Nm) (s:St) (a:Act) (w:World):Prop where
 hd:a.defers= []
 hn:a.tmps.size=B.n
 hs: ∀ k x,s.look k=some x→a.tmps[k]? =some (x.at ρ a.tmps)
 hg: ∀ k x j b,s.look k=some x→x.g=some (j,b)→s.wr j=true
 hu: ∀ k x,s.look k=some x→x.v.inU s.used
 hp:Hp B ρ s.ent s.used w
 hl: ∀ k v,B.sl k=some v→a.tmps[k]? =some v
theorem ac0{a:Act}{k:Nat}{v:Value}{j:Nat}(h:j≠k):yl (a.put (some k) v).tmps j=yl a.tmps j:=by
 simp only [yl,Act.put,Array.getElem?_setIfInBounds_ne (Ne.symm h)]
theorem SS.at_congr{ρ ρ':Nm}{U:Nat→Bool}{t t':Array Value}{x:SS}(h: ∀ id,U id=true→ρ' id=ρ id)(hc:x.v.inU U)(hy: ∀ j b,x.g=some (j,b)→yl t' j=yl t j):x.at ρ' t'=x.at ρ t:=by
 obtain⟨g,v⟩:=x
 cases g with
 |none=>exact SV.conc_congr h hc
 |some p=>obtain⟨j,b⟩:=p;simp only [SS.at,hy j b rfl,SV.conc_congr h hc]
end Go.SX
namespace Go.SX
open Go.RowKit
theorem Mdl.he{B:Base}{ρ:Nm}{s:St}{a:Act}{w:World}(h:Mdl B ρ s a w): ∀ id e,s.ent id=some e→e.holds B ρ w id∧s.used id=true∧e.inU s.used:=h.hp.he
def memB(w0:World)(mem:Nat→Option Obj):Base:=⟨0,w0,mem,fun _=>none,fun _=>false,fun _ h=>by cases h⟩
def HpL(w0:World)(mem:Nat→Option Obj)(es:List Entry)(ρ:Nm)(w:World):Prop:=Hp (memB w0 mem) ρ (fun i=>es[i]?) (fun i=>Nat.blt i es.length) w
structure Out where
 res:SV
 es:List Entry
 new:List Entry
 nd:List Bool
structure PF (P:Program) where
 k:FuncId
 F:List SV→List Entry→Option Out
 ok: ∀ args es o,F args es=some o→(∀ b∈o.nd,b=true)→ ∀ (mem:Nat→Option Obj) (ρ:Nm) (w:World),HpL w mem es ρ w→
  Calls P k (args.map (SV.conc ρ)).toArray w fun e w'=> ∃ ρ':Nm,Ext (memB w mem) (fun i=>Nat.blt i es.length) ρ ρ'∧e= .returned (o.res.conc ρ')∧o.es.length=es.length∧
   o.res.inU (fun i=>Nat.blt i (o.es++o.new).length)∧HpL w mem (o.es++o.new) ρ' w'
 keep:List Nat:= []
 hk: ∀ args es o,F args es=some o→(∀ b∈o.nd,b=true)→ ∀ i∈keep,o.es[i]? =es[i]? :=by intro _ _ _ _ _ _ h;cases h
def PF.kept{P:Program}(p:PF P)(l:List Nat)(h: ∀ args es o,p.F args es=some o→ ∀ i∈l,o.es[i]? =es[i]?):PF P where
 k:=p.k
 F:=p.F
 ok:=p.ok
 keep:=l
 hk:=fun args es o ho _=>h args es o ho
def PF.mark(P:Program):PF P where
 k:=999999
 F:=fun _ _=>none
 ok:=fun _ _ _ h=>by cases h
def PF.marked{P:Program}:List (PF P)→Bool
 | []=>false
 |p::_=>Nat.beq p.k 999999
def PF.treed{P:Program}:List (PF P)→Bool
 | []=>false
 |p::r=>Nat.beq p.k 999998||(Nat.beq p.k 999999&&(match r with | q::_=>Nat.beq q.k 999998 | []=>false))
def PF.take(P:Program):PF P where
 k:=999995
 F:=fun _ _=>none
 ok:=fun _ _ _ h=>by cases h
def PF.takes{P:Program}:List (PF P)→Bool
 |_::q::_=>Nat.beq q.k 999995
 |_=>false
def LK{P:Program}:List (PF P)→FuncId→List SV→List Entry→Option (Out×List Nat)
 | [],_,_,_=>none
 |p::r,k,args,es=>bif Nat.beq p.k k then(match p.F args es with | some o=>some (o,p.keep) | none=>LK r k args es)else LK r k args es
theorem RO{P:Program}: ∀ {l:List (PF P)} {k:FuncId} {args:List SV} {es:List Entry} {o:Out} {kp:List Nat},LK l k args es=some (o,kp)→(∀ b∈o.nd,b=true)→ ∀ (mem:Nat→Option Obj) (ρ:Nm) (w:World),HpL w mem es ρ w→
  Calls P k (args.map (SV.conc ρ)).toArray w fun e w'=> ∃ ρ':Nm,Ext (memB w mem) (fun i=>Nat.blt i es.length) ρ ρ'∧e= .returned (o.res.conc ρ')∧o.es.length=es.length∧
   o.res.inU (fun i=>Nat.blt i (o.es++o.new).length)∧HpL w mem (o.es++o.new) ρ' w'
 | [],k,args,es,o,kp,h=>by simp [LK]at h
 |p::r,k,args,es,o,kp,h=>by
  simp only [LK]at h
  cases hq:Nat.beq p.k k with
  |true=>
   simp only [hq,cond_true]at h
   have hk:=q8 hq
   split at h
   ·rename_i o' ho'
    cases h
    subst hk
    exact p.ok _ _ _ ho'
   ·exact RO h
  |false=>simp only [hq,cond_false]at h;exact RO h
theorem NA{P:Program}: ∀ {l:List (PF P)} {k:FuncId} {args:List SV} {es:List Entry} {o:Out} {kp:List Nat},LK l k args es=some (o,kp)→(∀ b∈o.nd,b=true)→ ∀ i∈kp,o.es[i]? =es[i]?
 | [],k,args,es,o,kp,h=>by simp [LK]at h
 |p::r,k,args,es,o,kp,h=>by
  simp only [LK]at h
  cases hq:Nat.beq p.k k with
  |true=>
   simp only [hq,cond_true]at h
   split at h
   ·rename_i o' ho'
    cases h
    exact p.hk _ _ _ ho'
   ·exact NA h
  |false=>simp only [hq,cond_false]at h;exact NA h
def look?{α:Type}:List (Nat×α)→Nat→Option α
 | [],_=>none
 |p::r,k=>bif Nat.beq p.1 k then some p.2 else look? r k
def memN:List Nat→Nat→Bool
 | [],_=>false
 |p::r,k=>bif Nat.beq p k then true else memN r k
structure Raw where
 v:SV
 es:List (Nat×Entry)
 new:List Nat
 nd:List Bool
def be(ent:Nat→Option Entry)(es:List (Nat×Entry)):Nat→Option Entry:=fun i=>match look? es i with | some e=>some e | none=>ent i
def bq(used:Nat→Bool)(new:List Nat):Nat→Bool:=fun i=>bif memN new i then true else used i
def ev(look:Nat→Option SS)(A:List (Nat×Bool)):Operand→Option SV
 | .tmp t=>match look t with
  |some ⟨none,v⟩=>some v
  |some ⟨some p,v⟩=>bif A.any (fun q=>Nat.beq q.1 p.1&&q.2==p.2)then some v else none
  |none=>none
 | .const v=>some (.ofValue v)
 | .func f=>some (.one ⟨false,[.val (.func (.func f) #[] #[])]⟩)
 | .global _=>none
def asm(s:St):Nat→Option (Nat×Bool)→List (Nat×Bool)
 |_,none=> []
 |0,some _=> []
 |f + 1,some p=>p::asm s f (match s.look p.1 with | some x=>x.g | none=>none)
theorem RK{B:Base}{ρ:Nm}{s:St}{a:Act}{w:World}(hM:Mdl B ρ s a w): ∀ (f:Nat) (g:Option (Nat×Bool)),(∀ p,g=some p→yl a.tmps p.1=some p.2)→ ∀ q∈asm s f g,yl a.tmps q.1=some q.2
 |_,none,_,q,hq=>by cases ‹Nat› <;> simp [asm]at hq
 |0,some p,_,q,hq=>by simp [asm]at hq
 |f + 1,some p,h,q,hq=>by
  simp only [asm,List.mem_cons]at hq
  rcases hq with rfl | hq
  ·exact h _ rfl
  ·refine RK hM f _ (fun p' hp'=> ?_) q hq
   cases hx:s.look p.1 with
   |none=>simp [hx]at hp'
   |some x=>
    simp only [hx]at hp'
    have hs:=hM.hs _ _ hx
    have hy:=h p rfl
    simp only [yl,hs]at hy
    obtain⟨g,v⟩:=x
    simp only at hp'
    subst hp'
    simp only [SS.at]at hy
    split at hy
    ·rename_i HJ
     split at HJ
     ·assumption
     ·simp [undef]at HJ
    ·cases hy
theorem TD{B:Base}{ρ:Nm}{s:St}{a:Act}{w:World}(hM:Mdl B ρ s a w){look:Nat→Option SS}(hL: ∀ k x,look k=some x→s.look k=some x){A:List (Nat×Bool)}(hA: ∀ q∈A,yl a.tmps q.1=some q.2){x:Operand}{v:SV}(h:ev look A x=some v):a.eval x=v.conc ρ:=by
 cases x with
 |tmp t=>
  simp only [ev]at h
  cases hx:look t with
  |none=>simp [hx]at h
  |some x=>
   have hs:=hM.hs _ _ (hL _ _ hx)
   obtain⟨g,u⟩:=x
   simp only [hx]at h
   cases g with
   |none=>
    simp at h;subst h
    simp [Act.eval,hs,SS.at]
   |some p=>
    simp only at h
    cases hb:A.any (fun q=>Nat.beq q.1 p.1&&q.2==p.2)with
    |false=>simp [hb]at h
    |true=>
     simp [hb]at h;subst h
     obtain⟨q,hq,hqp⟩:=List.any_eq_true.1 hb
     simp only [w5,beq_iff_eq]at hqp
     have h1:=q8 hqp.1
     have:=hA q hq
     rw [h1,hqp.2]at this
     simp [Act.eval,hs,SS.at,this]
 |const v'=>simp only [ev,q9]at h;subst h;simp [Act.eval,SV.conc_ofValue]
 |func f=>simp only [ev,q9]at h;subst h;rfl
 |global g=>simp [ev]at h
theorem acF{B:Base}{ρ:Nm}{s:St}{a:Act}{w:World}(hM:Mdl B ρ s a w){look:Nat→Option SS}(hL: ∀ k x,look k=some x→s.look k=some x){A:List (Nat×Bool)}{x:Operand}{v:SV}(h:ev look A x=some v):v.inU s.used:=by
 cases x with
 |tmp t=>
  simp only [ev]at h
  cases hx:look t with
  |none=>simp [hx]at h
  |some x=>
   have hs:=hM.hu _ _ (hL _ _ hx)
   obtain⟨g,u⟩:=x
   simp only [hx]at h
   cases g with
   |none=>simp at h;subst h;exact hs
   |some p=>
    simp only at h
    cases hb:A.any (fun q=>Nat.beq q.1 p.1&&q.2==p.2)with
    |false=>simp [hb]at h
    |true=>simp [hb]at h;subst h;exact hs
 |const v'=>simp only [ev,q9]at h;subst h;exact SV.ofValue_inU _ _
 |func f=>simp only [ev,q9]at h;subst h;intro c hc;simp only [j8]at hc;subst hc;trivial
 |global g=>simp [ev]at h
def KY(c:Bool):Value→Value→Option Value
 | .int k x,.int k' y=>if k=k' then some (.int k (cond c x y))else none
 | .bool x,.bool y=>some (.bool (cond c x y))
 | .string x,.string y=>some (.string (cond c x y))
 |_,_=>none
theorem UE{c:Bool}{a b v:Value}(h:KY c a b=some v):v=cond c a b:=by
 unfold KY at h
 split at h
 ·split at h
  ·rename_i hk;subst hk;cases h;cases c <;> rfl
  ·cases h
 ·cases h;cases c <;> rfl
 ·cases h;cases c <;> rfl
 ·cases h
def GI(c:Bool):Cell→Cell→Option Cell
 | .val a,.val b=>(KY c a b).map .val
 | .ptr i o,.ptr i' o'=>bif Nat.beq i i'&&Nat.beq o o' then some (.ptr i o)else none
 | .ref i,.ref i'=>bif Nat.beq i i' then some (.ref i)else none
 |_,_=>none
theorem Tn(ρ:Nm){c:Bool}{a b v:Cell}(h:GI c a b=some v):v.conc ρ=cond c (a.conc ρ) (b.conc ρ):=by
 unfold GI at h
 split at h
 ·rename_i x y
  cases hm:KY c x y with
  |none=>simp [hm]at h
  |some u=>simp [hm]at h;subst h;simp only [Cell.conc];exact UE hm
 ·rename_i i o i' o'
  cases hb:(Nat.beq i i'&&Nat.beq o o')with
  |false=>simp [hb]at h
  |true=>
   simp [hb]at h;subst h
   simp only [w5]at hb
   rw [q8 hb.1,q8 hb.2];cases c <;> rfl
 ·rename_i i i'
  cases hb:Nat.beq i i' with
  |false=>simp [hb]at h
  |true=>
   simp [hb]at h;subst h
   rw [q8 hb];cases c <;> rfl
 ·cases h
theorem Vh{U:Nat→Bool}{c:Bool}{a b v:Cell}(ha:a.inU U)(h:GI c a b=some v):v.inU U:=by
 unfold GI at h
 split at h
 ·rename_i x y
  cases hm:KY c x y with
  |none=>simp [hm]at h
  |some u=>simp [hm]at h;subst h;trivial
 ·rename_i i o i' o'
  cases hb:(Nat.beq i i'&&Nat.beq o o')with
  |false=>simp [hb]at h
  |true=>simp [hb]at h;subst h;exact ha
 ·rename_i i i'
  cases hb:Nat.beq i i' with
  |false=>simp [hb]at h
  |true=>simp [hb]at h;subst h;exact ha
 ·cases h
def jj(c:Bool):List Cell→List Cell→Option (List Cell)
 | [],[]=>some []
 |a::as,b::bs=>match GI c a b,jj c as bs with
  |some x,some xs=>some (x::xs)
  |_,_=>none
 |_,_=>none
theorem uF(ρ:Nm){c:Bool}: ∀ {as bs vs:List Cell},jj c as bs=some vs→vs.map (Cell.conc ρ)=cond c (as.map (Cell.conc ρ)) (bs.map (Cell.conc ρ))∧vs.length=as.length∧vs.length=bs.length
 | [],[],vs,h=>by simp [jj]at h;subst h;cases c <;> exact⟨rfl,rfl,rfl⟩
 | [],_::_,vs,h=>by simp [jj]at h
 |_::_,[],vs,h=>by simp [jj]at h
 |a::as,b::bs,vs,h=>by
  simp only [jj]at h
  split at h
  ·rename_i x xs hx Yo
   cases h
   obtain⟨h1,h2,h3⟩:=uF ρ Yo
   have h0:=Tn ρ hx
   refine⟨?_,by simp [h2],by simp [h3]⟩
   simp only [z6,h0,h1];cases c <;> rfl
  ·cases h
theorem Fv{U:Nat→Bool}{c:Bool}: ∀ {as bs vs:List Cell},(∀ x∈as,x.inU U)→jj c as bs=some vs→ ∀ x∈vs,x.inU U
 | [],[],vs,_,h=>by simp [jj]at h;subst h;simp
 | [],_::_,vs,_,h=>by simp [jj]at h
 |_::_,[],vs,_,h=>by simp [jj]at h
 |a::as,b::bs,vs,ha,h=>by
  simp only [jj]at h
  split at h
  ·rename_i x xs hx Yo
   cases h
   intro y hy
   rcases List.mem_cons.1 hy with rfl | hy
   ·exact Vh (ha _ (by simp)) hx
   ·exact Fv (fun z hz=>ha z (by simp [hz])) Yo y hy
  ·cases h
def Ea(c:Bool)(a b:V1):Option V1:=
 match a.agg,b.agg with
 |true,true=>(jj c a.cs b.cs).map (⟨true,·⟩)
 |false,false=>(jj c a.cs b.cs).map (⟨false,·⟩)
 |_,_=>none
theorem PM(ρ:Nm){c:Bool}{a b v:V1}(h:Ea c a b=some v):v.conc ρ=cond c (a.conc ρ) (b.conc ρ):=by
 obtain⟨ga,as⟩:=a
 obtain⟨gb,bs⟩:=b
 unfold Ea at h
 split at h
 ·rename_i e1 e2
  simp only at e1 e2 h;subst e1 e2
  cases hm:jj c as bs with
  |none=>simp [hm]at h
  |some u=>simp [hm]at h;subst h;simp only [V1.conc,(uF ρ hm).1];cases c <;> rfl
 ·rename_i e1 e2
  simp only at e1 e2 h;subst e1 e2
  cases hm:jj c as bs with
  |none=>simp [hm]at h
  |some u=>
   simp [hm]at h;subst h
   obtain⟨h1,h2,h3⟩:=uF ρ hm
   match u,as,bs,h1,h2,h3 with
   | [],[],[],_,_,_=>cases c <;> rfl
   | [x],[y],[z],h1,_,_=>simp only [V1.conc];cases c <;> simpa using h1
   |_::_::_,_::_::_,_::_::_,_,_,_=>cases c <;> rfl
 ·cases h
theorem SZ{U:Nat→Bool}{c:Bool}{a b v:V1}(ha:a.inU U)(h:Ea c a b=some v):v.inU U:=by
 unfold Ea at h
 split at h
 all_goals first
  |cases h
  |(cases hm:jj c a.cs b.cs with
    |none=>simp [hm]at h
    |some u=>simp [hm]at h;subst h;exact Fv ha hm)
def rC(c:Bool):List V1→List V1→Option (List V1)
 | [],[]=>some []
 |a::as,b::bs=>match Ea c a b,rC c as bs with
  |some x,some xs=>some (x::xs)
  |_,_=>none
 |_,_=>none
theorem NO(ρ:Nm){c:Bool}: ∀ {as bs vs:List V1},rC c as bs=some vs→vs.map (V1.conc ρ)=cond c (as.map (V1.conc ρ)) (bs.map (V1.conc ρ))
 | [],[],vs,h=>by simp [rC]at h;subst h;cases c <;> rfl
 | [],_::_,vs,h=>by simp [rC]at h
 |_::_,[],vs,h=>by simp [rC]at h
 |a::as,b::bs,vs,h=>by
  simp only [rC]at h
  split at h
  ·rename_i x xs hx Yo
   cases h
   simp only [z6,PM ρ hx,NO ρ Yo];cases c <;> rfl
  ·cases h
theorem Rl{U:Nat→Bool}{c:Bool}: ∀ {as bs vs:List V1},(∀ x∈as,x.inU U)→rC c as bs=some vs→ ∀ x∈vs,x.inU U
 | [],[],vs,_,h=>by simp [rC]at h;subst h;simp
 | [],_::_,vs,_,h=>by simp [rC]at h
 |_::_,[],vs,_,h=>by simp [rC]at h
 |a::as,b::bs,vs,ha,h=>by
  simp only [rC]at h
  split at h
  ·rename_i x xs hx Yo
   cases h
   intro y hy
   rcases List.mem_cons.1 hy with rfl | hy
   ·exact SZ (ha _ (by simp)) hx
   ·exact Rl (fun z hz=>ha z (by simp [hz])) Yo y hy
  ·cases h
def BA(c:Bool):SV→SV→Option SV
 | .one a,.one b=>(Ea c a b).map .one
 | .tup as,.tup bs=>(rC c as bs).map .tup
 |_,_=>none
theorem DV(ρ:Nm){c:Bool}{a b v:SV}(h:BA c a b=some v):v.conc ρ=cond c (a.conc ρ) (b.conc ρ):=by
 unfold BA at h
 split at h
 ·rename_i x y
  cases hm:Ea c x y with
  |none=>simp [hm]at h
  |some u=>simp [hm]at h;subst h;exact PM ρ hm
 ·rename_i x y
  cases hm:rC c x y with
  |none=>simp [hm]at h
  |some u=>simp [hm]at h;subst h;simp only [SV.conc,NO ρ hm];cases c <;> rfl
 ·cases h
theorem SY{U:Nat→Bool}{c:Bool}{a b v:SV}(ha:a.inU U)(h:BA c a b=some v):v.inU U:=by
 unfold BA at h
 split at h
 ·rename_i x y
  cases hm:Ea c x y with
  |none=>simp [hm]at h
  |some u=>simp [hm]at h;subst h;exact SZ ha hm
 ·rename_i x y
  cases hm:rC c x y with
  |none=>simp [hm]at h
  |some u=>simp [hm]at h;subst h;exact Rl ha hm
 ·cases h
end Go.SX
namespace Go.SX
open Go.RowKit
theorem gm{used:Nat→Bool}{new:List Nat}: ∀ id,used id=true→bq used new id=true:=by
 intro id h;simp only [bq];cases memN new id <;> simp [h]
theorem Entry.inU_mono{U U':Nat→Bool}(h: ∀ id,U id=true→U' id=true){e:Entry}(he:e.inU U):e.inU U':=by
 cases e with
 |box T cs=>exact fun c hc=>Cell.inU_mono h (he c hc)
 |tree e t xs ho=>
  cases ho with
  |none=>trivial
  |some p=>exact fun c hc=>Cell.inU_mono h (he c hc)
 |_=>trivial
theorem Iz{v:Value}{w:World}{e:TypeId}{z n:Nat}{cs:List Value}(h:xZ w e z v n cs){b:Nat}(hb:b∈fZ v):
  ∃ cap cur,v= .slice (some ⟨b,0,none⟩) n cap∧w.heap[b]? =some (.cells cur e (0,0))∧n≤cap∧cap≤maxLen∧cur.size=cap * z∧cur.toList.take (n * z)=cs:=by
 rcases h.2 with⟨hz,_⟩ | ⟨g,cap,cur,rfl,h0,hg,h1,h2,h3,h4⟩
 ·rw [RM hz]at hb;cases hb
 ·rw [pO h0,j8]at hb;subst hb
  exact⟨cap,cur,rfl,hg,h1,h2,h3,h4⟩
theorem oo.blk{w:World}: ∀ {t:CTy} {cs:List Value} {x:E t} {L:List Nat},oo w t cs x L→ ∀ b∈L,b < w.heap.size
 | .int _,_,_,_,h,b,hb=>by simp only [oo]at h;rw [h.2]at hb;cases hb
 | .bool,_,_,_,h,b,hb=>by simp only [oo]at h;rw [h.2]at hb;cases hb
 | .str,_,_,_,h,b,hb=>by simp only [oo]at h;rw [h.2]at hb;cases hb
 | .pair _ _,_,_,_,h,b,hb=>by
  simp only [oo]at h
  obtain⟨c1,c2,L1,L2,_,rfl,h1,h2,_⟩:=h
  rcases z1.1 hb with hb | hb
  ·exact h1.blk b hb
  ·exact h2.blk b hb
 | .sl _ _,_,_,_,h,b,hb=>by
  simp only [oo]at h
  obtain⟨v,ds,_,rfl,_,ho,_⟩:=h
  obtain⟨_,_,_,hg,_⟩:=Iz ho hb
  exact(Array.getElem?_eq_some_iff.1 hg).1
 | .fn,_,_,_,h,b,hb=>by simp only [oo]at h;rw [h.2]at hb;cases hb
theorem HI.blk{w:World}{ρ:Nm}{t:CTy}{cs:List Value}{xs:List (E t)}{Ls:List (List Nat)}{ho:Option (Nat×List Cell)}(h:HI w ρ t cs xs Ls ho): ∀ b∈ol Ls,b < w.heap.size:=by
 intro b hb
 obtain⟨k,l,h1,h2⟩:=mb.1 hb
 have hk:k < xs.length:=by rw [← h.1];exact(z7.1 h1).1
 by_cases hq: ∀ j hc,ho=some (j,hc)→k≠j
 ·exact(h.2.2.1 k _ l hq (List.getElem?_eq_getElem hk) h1).blk b h2
 ·simp only [ne_eq]at hq
  have: ∃ j hc,ho=some (j,hc)∧k=j:=by
   apply Classical.byContradiction
   intro hn
   exact hq fun j hc he hkj=>hn ⟨j,hc,he,hkj⟩
  obtain⟨j,hc,he,rfl⟩:=this
  obtain⟨_,h3,_⟩:=h.2.1 k hc he
  rw [h1]at h3;cases h3;cases h2
theorem Entry.ob_lt{B:Base}{ρ:Nm}{w:World}{id:Nat}{e:Entry}(h:e.holds B ρ w id){b:Nat}(hb:b∈e.ob ρ id):b < w.heap.size∧B.mem b=none∧ρ.mem b=none:=by
 cases e with
 |box T cs=>
  obtain⟨c,h1,h2,h3,h4⟩:=h
  simp only [Entry.ob,h1,fZ,j8]at hb
  subst hb
  exact⟨(Array.getElem?_eq_some_iff.1 h2).1,h3,h4⟩
 |row own e t xs=>
  cases own with
  |false=>simp [Entry.ob]at hb
  |true=>
   obtain⟨cs,h1,_,h3⟩:=h
   simp only [Entry.ob]at hb
   obtain⟨_,_,_,hg,_⟩:=Iz h1 hb
   exact⟨(Array.getElem?_eq_some_iff.1 hg).1,h3 b hb⟩
 |tree e t xs ho=>
  obtain⟨cs,Ls,h1,h2,h3,_,h4⟩:=h
  simp only [Entry.ob]at hb
  refine⟨?_,h4 b hb⟩
  rcases z1.1 hb with hb | hb
  ·obtain⟨_,_,_,hg,_⟩:=Iz h1 hb
   exact(Array.getElem?_eq_some_iff.1 hg).1
  ·rw [h3]at hb;exact h2.blk b hb
 |wk e t xs=>
  obtain⟨_,h1,h2⟩:=h
  obtain⟨o,g,_⟩:=abJ h1 hb
  exact⟨(Array.getElem?_eq_some_iff.1 g).1,h2 b hb⟩
 |gone=>simp [Entry.ob]at hb
theorem oo.unf{w:World}: ∀ {t:CTy} {cs:List Value} {x:E t} {L:List Nat},oo w t cs x L→ ∀ b∈L,∃ o,w.heap[b]? =some o∧unf o
 | .int _,_,_,_,h,b,hb=>by simp only [oo]at h;rw [h.2]at hb;cases hb
 | .bool,_,_,_,h,b,hb=>by simp only [oo]at h;rw [h.2]at hb;cases hb
 | .str,_,_,_,h,b,hb=>by simp only [oo]at h;rw [h.2]at hb;cases hb
 | .pair _ _,_,_,_,h,b,hb=>by
  simp only [oo]at h
  obtain⟨c1,c2,L1,L2,_,rfl,h1,h2,_⟩:=h
  rcases z1.1 hb with hb | hb
  ·exact h1.unf b hb
  ·exact h2.unf b hb
 | .sl _ _,_,_,_,h,b,hb=>by
  simp only [oo]at h
  obtain⟨v,ds,_,rfl,_,ho,_⟩:=h
  obtain⟨_,_,_,hg,_⟩:=Iz ho hb
  exact⟨_,hg,_,_,rfl⟩
 | .fn,_,_,_,h,b,hb=>by simp only [oo]at h;rw [h.2]at hb;cases hb
theorem HI.unf{w:World}{ρ:Nm}{t:CTy}{cs:List Value}{xs:List (E t)}{Ls:List (List Nat)}{ho:Option (Nat×List Cell)}(h:HI w ρ t cs xs Ls ho): ∀ b∈ol Ls,∃ o,w.heap[b]? =some o∧unf o:=by
 intro b hb
 obtain⟨k,l,h1,h2⟩:=mb.1 hb
 have hk:k < xs.length:=by rw [← h.1];exact(z7.1 h1).1
 by_cases hq: ∀ j hc,ho=some (j,hc)→k≠j
 ·exact(h.2.2.1 k _ l hq (List.getElem?_eq_getElem hk) h1).unf b h2
 ·simp only [ne_eq]at hq
  have: ∃ j hc,ho=some (j,hc)∧k=j:=by
   apply Classical.byContradiction
   intro hn
   exact hq fun j hc he hkj=>hn ⟨j,hc,he,hkj⟩
  obtain⟨j,hc,he,rfl⟩:=this
  obtain⟨_,h3,_⟩:=h.2.1 k hc he
  rw [h1]at h3;cases h3;cases h2
theorem Entry.ob_unf{B:Base}{ρ:Nm}{w:World}{id:Nat}{e:Entry}(h:e.holds B ρ w id){b:Nat}(hb:b∈e.ob ρ id){o:Obj}(ho:w.heap[b]? =some o):unf o:=by
 have kn: ∃ o',w.heap[b]? =some o'∧SX.unf o':=by
  cases e with
  |box T cs=>
   obtain⟨c,h1,h2,h3,h4⟩:=h
   simp only [Entry.ob,h1,fZ,j8]at hb
   subst hb
   exact⟨_,h2,_,_,rfl⟩
  |row own e t xs=>
   cases own with
   |false=>simp [Entry.ob]at hb
   |true=>
    obtain⟨cs,h1,_,h3⟩:=h
    simp only [Entry.ob]at hb
    obtain⟨_,_,_,hg,_⟩:=Iz h1 hb
    exact⟨_,hg,_,_,rfl⟩
  |tree e t xs ho=>
   obtain⟨cs,Ls,h1,h2,h3,_,h4⟩:=h
   simp only [Entry.ob]at hb
   rcases z1.1 hb with hb | hb
   ·obtain⟨_,_,_,hg,_⟩:=Iz h1 hb
    exact⟨_,hg,_,_,rfl⟩
   ·rw [h3]at hb;exact h2.unf b hb
  |wk e t xs=>
   obtain⟨_,h1,h2⟩:=h
   exact abJ h1 hb
  |gone=>simp [Entry.ob]at hb
 obtain⟨o',h1,h2⟩:=kn
 rw [ho]at h1;cases h1;exact h2
theorem Fx{v:Value}{w w':World}{e:TypeId}{z n:Nat}{cs:List Value}(h:xZ w e z v n cs)(hk: ∀ b∈fZ v,w'.heap[b]? =w.heap[b]?):xZ w' e z v n cs:=by
 refine⟨h.1,h.2.imp id ?_⟩
 rintro⟨g,cap,cur,rfl,h1,h2,rest⟩
 exact⟨g,cap,cur,rfl,h1,by rw [hk g (by rw [pO h1];simp)];exact h2,rest⟩
theorem oo.keep{w w':World}: ∀ {t:CTy} {cs:List Value} {x:E t} {L:List Nat},oo w t cs x L→(∀ b∈L,w'.heap[b]? =w.heap[b]?)→oo w' t cs x L
 | .int _,_,_,_,h,_=>by simp only [oo]at h ⊢;exact h
 | .bool,_,_,_,h,_=>by simp only [oo]at h ⊢;exact h
 | .str,_,_,_,h,_=>by simp only [oo]at h ⊢;exact h
 | .pair _ _,_,_,_,h,hk=>by
  simp only [oo]at h ⊢
  obtain⟨c1,c2,L1,L2,e,rfl,h1,h2,h3⟩:=h
  exact⟨c1,c2,L1,L2,e,rfl,h1.keep fun b hb=>hk b (List.mem_append_left _ hb),h2.keep fun b hb=>hk b (w8 _ hb),h3⟩
 | .sl _ _,_,_,_,h,hk=>by
  simp only [oo]at h ⊢
  obtain⟨v,ds,e,rfl,hf,ho,hr⟩:=h
  exact⟨v,ds,e,rfl,hf,Fx ho hk,hr⟩
 | .fn,_,_,_,h,_=>by simp only [oo]at h ⊢;exact h
theorem HI.keep{w w':World}{ρ ρ':Nm}{t:CTy}{cs:List Value}{xs:List (E t)}{Ls:List (List Nat)}{ho:Option (Nat×List Cell)}(h:HI w ρ t cs xs Ls ho)(hk: ∀ b∈ol Ls,w'.heap[b]? =w.heap[b]?)
  (hc: ∀ k hc,ho=some (k,hc)→hc.map (Cell.conc ρ')=hc.map (Cell.conc ρ)):HI w' ρ' t cs xs Ls ho:=by
 obtain⟨h1,h2,h3,h4⟩:=h
 refine⟨h1,fun k l he=> ?_,fun i x l hi hx hl=>(h3 i x l hi hx hl).keep fun b hb=>hk b (mb.2 ⟨i,l,hl,hb⟩),h4⟩
 obtain⟨a,b,c⟩:=h2 k l he
 exact⟨a,b,by rw [hc k l he];exact c⟩
theorem Entry.holds_keep{B:Base}{ρ ρ':Nm}{U:Nat→Bool}{w w':World}{id:Nat}{e:Entry}(hfp:ρ'.fp id=ρ.fp id)(Cc: ∀ id,U id=true→ρ' id=ρ id)(hold: ∀ b o,ρ.mem b=some o→ρ'.mem b=some o)
  (hU:U id=true) (uL:e.inU U) (hh:e.holds B ρ w id) (hw: ∀ b∈e.ob ρ id,w'.heap[b]? =w.heap[b]?) (hm: ∀ b∈e.ob ρ id,ρ'.mem b=none):e.holds B ρ' w' id:=by
 cases e with
 |box T cs=>
  obtain⟨b,h1,h2,h3,h4⟩:=hh
  simp only [Entry.ob,h1,fZ,j8,forall_eq]at hw hm
  exact⟨b,by rw [Cc id hU,h1],by rw [rB Cc uL,hw,h2],h3,hm⟩
 |row own e t xs=>
  cases own with
  |false=>
   simp only [Entry.holds]at hh ⊢
   rw [Cc id hU];exact hh.mono hold
  |true=>
   obtain⟨cs,h1,h2,h3⟩:=hh
   simp only [Entry.ob]at hw hm
   simp only [Entry.holds]
   rw [Cc id hU]
   exact⟨cs,Fx h1 hw,h2.mono hold,fun b hb=>⟨(h3 b hb).1,hm b hb⟩⟩
 |tree e t xs ho=>
  obtain⟨cs,Ls,h1,h2,h3,h4,h5⟩:=hh
  simp only [Entry.ob]at hw hm
  simp only [Entry.holds]
  rw [Cc id hU,hfp]
  refine⟨cs,Ls,Fx h1 fun b hb=>hw b (List.mem_append_left _ hb),h2.keep (fun b hb=>hw b (w8 _ (by rw [h3];exact hb))) fun k l he=> ?_,h3,h4,fun b hb=>⟨(h5 b hb).1,hm b hb⟩⟩
  subst he
  exact rB Cc uL
 |wk e t xs=>
  obtain⟨h1,h2,h3⟩:=hh
  simp only [Entry.ob]at hw hm
  simp only [Entry.holds]
  rw [Cc id hU]
  exact⟨h1,acr h1 h2 hw,fun b hb=>⟨(h3 b hb).1,hm b hb⟩⟩
 |gone=>trivial
structure Chg (w w':World) (X:Nat→Prop):Prop where
 os:w'.os=w.os
 tape:w'.tape=w.tape
 output:w'.output=w.output
 size:w.heap.size≤w'.heap.size
 block: ∀ k,k < w.heap.size→ ¬ X k→w'.heap[k]? =w.heap[k]?
theorem Chg.refl(w:World)(X:Nat→Prop):Chg w w X:=⟨rfl,rfl,rfl,Nat.le_refl _,fun _ _ _=>rfl⟩
theorem Chg.grown{w w':World}{r:Option Nat}(h:w.grownBy w' r):Chg w w' (fun k=>r=some k):=
 ⟨h.os,h.tape,h.output,h.size,fun k hk hX=>h.block k hk fun e=>hX e.symm⟩
theorem Chg.alloc(w:World)(o:Obj):Chg w (w.alloc o) (fun _=>False):=
 ⟨rfl,rfl,rfl,by simp,fun k hk _=>heap_alloc_old w o hk⟩
theorem Chg.setRow(w:World)(b:Nat)(r:Array Value):Chg w (w.setRow b r) (fun k=>k=b):=
 ⟨rfl,rfl,rfl,by simp [World.setRow],fun k _ hX=>setRow_other w b k _ hX⟩
def Was(ent:Nat→Option Entry)(ρ:Nm)(es:List (Nat×Entry))(b:Nat):Prop:= ∃ id e e',ent id=some e∧b∈e.ob ρ id∧look? es id=some e'
theorem Hp.chg{B:Base}{ρ ρ':Nm}{ent:Nat→Option Entry}{used:Nat→Bool}{w w':World}{X:Nat→Prop}{es:List (Nat×Entry)}{new:List Nat}(h:Hp B ρ ent used w)
  (hc:Chg w w' X) (Cc: ∀ id,used id=true→ρ' id=ρ id) (hold: ∀ b o,ρ.mem b=some o→ρ'.mem b=some o)
  (hX: ∀ k,X k→Was ent ρ es k)
  (hfr: ∀ b o,ρ'.mem b=some o→ρ.mem b=some o∨(w'.heap[b]? =some o∧unf o∧(w.heap.size≤b∨Was ent ρ es b)))
  (SM: ∀ id e,look? es id=some e→e.holds B ρ' w' id∧bq used new id=true∧e.inU (bq used new))
  (TF: ∀ id e b,look? es id=some e→b∈e.ob ρ' id→w.heap.size≤b∨Was ent ρ es b)
  (hdis: ∀ id id' e e' b,look? es id=some e→look? es id'=some e'→b∈e.ob ρ' id→b∈e'.ob ρ' id'→id=id')
  (hfp: ∀ id,used id=true→look? es id=none→ρ'.fp id=ρ.fp id:=by intros;rfl):
  Ext B used ρ ρ'∧Hp B ρ' (be ent es) (bq used new) w':=by
 have Dk: ∀ b,Was ent ρ es b→b < w.heap.size∧B.mem b=none∧ρ.mem b=none:=fun b ⟨id,e,_,h1,h2,_⟩=>Entry.ob_lt (h.he id e h1).1 h2
 have hnw: ∀ b o,B.mem b=some o→ ¬ w.heap.size≤b:=fun b o hb DR=>by
  have:=(Array.getElem?_eq_some_iff.1 (h.hf.mem b o hb)).1;omega
 have oth: ∀ id e b,ent id=some e→look? es id=none→b∈e.ob ρ id→ ¬ Was ent ρ es b:=by
  intro id e b he hl hb ⟨id0,e0,e',h1,h2,h3⟩
  have:=h.hi _ _ _ _ b he h1 hb h2
  subst this;rw [hl]at h3;cases h3
 have kn: ∀ id e,ent id=some e→look? es id=none→e.holds B ρ' w' id∧bq used new id=true∧e.inU (bq used new):=by
  intro id e he hl
  obtain⟨h1,h2,h3⟩:=h.he id e he
  refine⟨Entry.holds_keep (hfp id h2 hl) Cc hold h2 h3 h1 (fun b hb=>hc.block b (Entry.ob_lt h1 hb).1 fun hx=>oth id e b he hl hb (hX b hx)) (fun b hb=> ?_),gm _ h2,Entry.inU_mono gm h3⟩
  cases hm:ρ'.mem b with
  |none=>rfl
  |some o=>
   obtain⟨h4,_,h5⟩:=Entry.ob_lt h1 hb
   rcases hfr b o hm with h6 | ⟨_,_,h6 | h6⟩
   ·rw [h5]at h6;cases h6
   ·omega
   ·exact(oth id e b he hl hb h6).elim
 have kh: ∀ b o,ρ'.mem b=some o→ρ.mem b=some o∨(B.mem b=none∧unf o):=by
  intro b o hb
  rcases hfr b o hb with h6 | ⟨_,hu,h6⟩
  ·exact .inl h6
  ·refine .inr ⟨?_,hu⟩
   cases hm:B.mem b with
   |none=>rfl
   |some o'=>
    rcases h6 with h6 | h6
    ·exact(hnw b o' hm h6).elim
    ·rw [(Dk b h6).2.1]at hm;cases hm
 refine⟨⟨Cc,hold,kh⟩,fun id e he=> ?_,fun id id' e e' b he he' hb hb'=> ?_,hc.os.trans h.hf.os,hc.tape.trans h.hf.tape,hc.output.trans h.hf.output,Nat.le_trans h.hf.size hc.size,fun b o hb=> ?_,fun b o hb=> ?_,h.hf.gl.mono hold⟩
 ·simp only [be]at he
  cases hl:look? es id with
  |some e1=>simp [hl]at he;subst he;exact SM id _ hl
  |none=>simp [hl]at he;exact kn id e he hl
 ·have hsame: ∀ id e b,ent id=some e→look? es id=none→b∈e.ob ρ' id→b∈e.ob ρ id:=fun id e b he hl hb=>by
   have h1:=Cc id (h.he id e he).2.1
   have h2:=hfp id (h.he id e he).2.1 hl
   cases e with
   |row own _ _ _=>cases own <;> simp only [Entry.ob,h1]at hb ⊢ <;> exact hb
   |_=>simp only [Entry.ob,h1,h2]at hb ⊢;exact hb
  simp only [be]at he he'
  cases hl:look? es id with
  |some e1=>
   simp [hl]at he;subst he
   cases hl':look? es id' with
   |some e2=>simp [hl']at he';subst he';exact hdis _ _ _ _ b hl hl' hb hb'
   |none=>
    simp [hl']at he'
    have hb2:=hsame _ _ _ he' hl' hb'
    rcases TF id _ b hl hb with h6 | h6
    ·have:=(Entry.ob_lt (h.he id' e' he').1 hb2).1;omega
    ·exact(oth id' e' b he' hl' hb2 h6).elim
  |none=>
   simp [hl]at he
   have hb1:=hsame _ _ _ he hl hb
   cases hl':look? es id' with
   |some e2=>
    simp [hl']at he';subst he'
    rcases TF id' _ b hl' hb' with h6 | h6
    ·have:=(Entry.ob_lt (h.he id e he).1 hb1).1;omega
    ·exact(oth id e b he hl hb1 h6).elim
   |none=>
    simp [hl']at he'
    exact h.hi _ _ _ _ b he he' hb1 (hsame _ _ _ he' hl' hb')
 ·have h1:=h.hf.mem b o hb
  rw [hc.block b (Array.getElem?_eq_some_iff.1 h1).1 fun hx=>by rw [(Dk b (hX b hx)).2.1]at hb;cases hb];exact h1
 ·rcases hfr b o hb with h6 | ⟨h6,_⟩
  ·have h1:=h.hf.dat b o h6
   rw [hc.block b (Array.getElem?_eq_some_iff.1 h1).1 fun hx=>by rw [(Dk b (hX b hx)).2.2]at h6;cases h6];exact h1
  ·exact h6
theorem look?_append{α:Type}: ∀ (l r:List (Nat×α)) (k:Nat),look? (l++r) k=match look? l k with | some x=>some x | none=>look? r k
 | [],r,k=>rfl
 |p::l,r,k=>by
  simp only [List.cons_append,look?]
  cases Nat.beq p.1 k with
  |true=>rfl
  |false=>exact look?_append l r k
theorem SW: ∀ (l r:List Nat) (k:Nat),memN (l++r) k=(memN l k||memN r k)
 | [],r,k=>by simp [memN]
 |p::l,r,k=>by
  simp only [List.cons_append,memN]
  cases Nat.beq p k with
  |true=>simp
  |false=>simpa using SW l r k
theorem ux(ent:Nat→Option Entry)(l r:List (Nat×Entry)):be (be ent r) l=be ent (l++r):=by
 funext i
 simp only [be,look?_append]
 cases look? l i <;> rfl
theorem Vs(used:Nat→Bool)(l r:List Nat):bq (bq used r) l=bq used (l++r):=by
 funext i
 simp only [bq,SW]
 cases memN l i <;> cases memN r i <;> rfl
theorem Mh(used:Nat→Bool):bq used []=used:=rfl
def upd(ρ:Nm)(nid:Nat)(v:Value):Nm:=⟨fun i=>bif Nat.beq i nid then v else ρ.nm i,ρ.mem,ρ.fp⟩
theorem gk(ρ:Nm)(nid:Nat){v:Value}(hv:CU v=v):upd ρ nid v nid=v:=by simp [Nm.of,upd,hv]
theorem Hv{a:Addr}{n c b:Nat}(h:b∈fZ (.slice (some a) n c)):b=a.block:=by
 simp only [fZ]at h
 cases hq:Nat.beq c 0 with
 |true=>rw [hq]at h;cases h
 |false=>rw [hq]at h;simpa using h
theorem AO{v:Value}(h:PQ v): ∃ b,v= .slice b 0 0:=by
 rcases h with rfl | ⟨b,rfl⟩
 ·exact⟨_,rfl⟩
 ·exact⟨_,rfl⟩
theorem QF{v:Value}(h:PQ v):CU v=v:=by
 rcases h with rfl | ⟨_,rfl⟩ <;> rfl
theorem qr{w:World}{e:TypeId}{z n:Nat}{v:Value}{cs:List Value}(h:xZ w e z v n cs):CU v=v:=by
 rcases h.2 with⟨h,_⟩ | ⟨_,_,_,rfl,_⟩
 ·exact QF h
 ·rfl
theorem Chg.own{w w':World}{v:Value}(h:w.grownBy w' v.ownBlock)(hv: ∀ g,v.ownBlock=some g→g∈fZ v):Chg w w' (fun k=>k∈fZ v):=
 ⟨h.os,h.tape,h.output,h.size,fun k hk hX=>h.block k hk fun e=>hX (hv k e.symm)⟩
theorem De{used:Nat→Bool}{nid:Nat}(hn:used nid=false)(ρ:Nm)(v:Value): ∀ id,used id=true→upd ρ nid v id=ρ id:=by
 intro id iU
 have:Nat.beq id nid=false:=by
  cases hb:Nat.beq id nid with
  |false=>rfl
  |true=>rw [q8 hb,hn]at iU;cases iU
 simp only [Nm.of,upd,this,cond_false]
theorem look?_one{α:Type}{i k:Nat}{x y:α}(h:look? [(i,x)] k=some y):k=i∧y=x:=by
 simp only [look?]at h
 cases hb:Nat.beq i k with
 |true=>simp [hb]at h;exact⟨(q8 hb).symm,h.symm⟩
 |false=>simp [hb]at h
theorem look?_same{α:Type}(i:Nat)(x:α)(l:List (Nat×α)):look? ((i,x)::l) i=some x:=by simp [look?]
section
variable{B:Base}{ρ:Nm}{ent:Nat→Option Entry}{used:Nat→Bool}{w:World}
theorem Hp.alloc(h:Hp B ρ ent used w){nid:Nat}(hn:used nid=false)(T:TypeId)(cs:List Cell)(DQ: ∀ c∈cs,c.inU used):
  let ρ':=upd ρ nid (.pointer (some ⟨w.heap.size,0,none⟩))
  Ext B used ρ ρ'∧Hp B ρ' (be ent [(nid,.box T cs)]) (bq used [nid]) (w.alloc (.cells (cs.map (Cell.conc ρ)).toArray T)):=by
 intro ρ'
 have Cc:=De hn ρ (.pointer (some ⟨w.heap.size,0,none⟩))
 refine h.chg (Chg.alloc w _) Cc (fun _ _ h=>h) (fun _ hx=>hx.elim) (fun _ _ hb=> .inl hb) (fun id e he=> ?_) (fun id e b he hb=> ?_) (fun id id' e e' b he he' _ _=> ?_)
 ·obtain⟨rfl,rfl⟩:=look?_one he
  refine⟨⟨w.heap.size,gk _ _ rfl,?_,?_,?_⟩,by simp [bq,memN],fun c hc=>Cell.inU_mono gm (DQ c hc)⟩
  ·rw [rB Cc DQ];exact heap_alloc_new w _
  ·cases hm:B.mem w.heap.size with
   |none=>rfl
   |some o=>have:=(Array.getElem?_eq_some_iff.1 (h.hf.mem _ _ hm)).1;omega
  ·show ρ.mem w.heap.size=none
   cases hm:ρ.mem w.heap.size with
   |none=>rfl
   |some o=>have:=(Array.getElem?_eq_some_iff.1 (h.hf.dat _ _ hm)).1;omega
 ·obtain⟨rfl,rfl⟩:=look?_one he
  simp only [Entry.ob]at hb
  rw [show ρ' id= .pointer (some ⟨w.heap.size,0,none⟩) from gk _ _ rfl]at hb
  simp only [fZ,j8]at hb
  subst hb;exact .inl (Nat.le_refl _)
 ·exact(look?_one he).1.trans (look?_one he').1.symm
theorem Hp.setBox(h:Hp B ρ ent used w){id:Nat}{T:TypeId}{cs ns:List Cell}(he:ent id=some (.box T cs))(VI: ∀ c∈ns,c.inU used):
  Ext B used ρ ρ∧Hp B ρ (be ent [(id,.box T ns)]) used (w.setRow (FX (ρ id)) (ns.map (Cell.conc ρ)).toArray):=by
 obtain⟨⟨b,h1,h2,h3,h4⟩,iU,_⟩:=h.he _ _ he
 have hbk:FX (ρ id)=b:=by rw [h1];rfl
 have Dk:Was ent ρ [(id,.box T ns)] b:=⟨id,_,_,he,by simp [Entry.ob,h1,fZ],look?_same _ _ _⟩
 rw [hbk,show used=bq used [] from rfl]
 refine h.chg (Chg.setRow w b _) (fun _ _=>rfl) (fun _ _ h=>h) (fun k hk=>by subst hk;exact Dk) (fun _ _ hb=> .inl hb) (fun i e hl=> ?_) (fun i e b' hl hb'=> ?_) (fun i i' e e' b' hl hl' _ _=> ?_)
 ·obtain⟨rfl,rfl⟩:=look?_one hl
  exact⟨⟨b,h1,setRow_heap w _ _ _ T _ h2,h3,h4⟩,iU,VI⟩
 ·obtain⟨rfl,rfl⟩:=look?_one hl
  simp only [Entry.ob,h1,fZ,j8]at hb'
  subst hb';exact .inr Dk
 ·exact(look?_one hl).1.trans (look?_one hl').1.symm
theorem Hp.names(h:Hp B ρ ent used w){ρ':Nm}{es:List (Nat×Entry)}{new:List Nat}(Cc: ∀ id,used id=true→ρ' id=ρ id)(CG:ρ'.mem=ρ.mem)
  (SM: ∀ id e,look? es id=some e→e.holds B ρ' w id∧bq used new id=true∧e.inU (bq used new)∧e.ob ρ' id= [])
  (hfp: ∀ id,used id=true→look? es id=none→ρ'.fp id=ρ.fp id:=by intros;rfl):
  Ext B used ρ ρ'∧Hp B ρ' (be ent es) (bq used new) w:=by
 refine h.chg (Chg.refl w (fun _=>False)) Cc (fun _ _ h=>by rw [CG];exact h) (fun _ hx=>hx.elim) (fun _ _ hb=> .inl (by rw [← CG];exact hb)) (fun id e he=> ?_) (fun id e b he hb=> ?_) (fun id id' e e' b he he' hb _=> ?_) hfp
 ·obtain⟨h1,h2,h3,_⟩:=SM id e he;exact⟨h1,h2,h3⟩
 ·rw [(SM id e he).2.2.2]at hb;cases hb
 ·rw [(SM id e he).2.2.2]at hb;cases hb
theorem Hp.rowTo(h:Hp B ρ ent used w){id nid:Nat}{e:TypeId}{t:CTy}{xs xs':List (E t)}{w':World}{v':Value}{cs:List Value}(he:ent id=some (.row true e t xs))(hn:used nid=false)
  (hg:Chg w w' (fun k=>k∈fZ (ρ id))) (nQ:xZ w' e t.size v' xs'.length cs) (oB:iT ρ.mem t cs xs') (hb: ∀ b∈fZ v',w.heap.size≤b∨b∈fZ (ρ id)):
  let ρ':=upd ρ nid v'
  Ext B used ρ ρ'∧Hp B ρ' (be ent [(nid,.row true e t xs'),(id,.gone)]) (bq used [nid]) w':=by
 intro ρ'
 obtain⟨⟨cs0,h1,h2,h3⟩,iU,_⟩:=h.he _ _ he
 have Cc:=De hn ρ v'
 have Hy:Nat.beq nid id=false:=by
  cases hq:Nat.beq nid id with
  |false=>rfl
  |true=>rw [q8 hq,iU]at hn;cases hn
 have hlid:look? [(nid,Entry.row true e t xs'),(id,.gone)] id=some .gone:=by simp [look?,Hy]
 have Dk: ∀ b∈fZ (ρ id),Was ent ρ [(nid,.row true e t xs'),(id,.gone)] b:=fun b hb=>⟨id,_,_,he,hb,hlid⟩
 have hcase: ∀ i x,look? [(nid,Entry.row true e t xs'),(id,.gone)] i=some x→(i=nid∧x= .row true e t xs')∨(i=id∧x= .gone):=by
  intro i x hl
  simp only [look?]at hl
  cases hq:Nat.beq nid i with
  |true=>simp [hq]at hl;exact .inl ⟨(q8 hq).symm,hl.symm⟩
  |false=>
   simp [hq]at hl
   cases hq':Nat.beq id i with
   |true=>simp [hq']at hl;exact .inr ⟨(q8 hq').symm,hl.symm⟩
   |false=>simp [hq']at hl
 refine h.chg hg Cc (fun _ _ h=>h) (fun k hk=>Dk k hk) (fun _ _ hb=> .inl hb) (fun i x hl=> ?_) (fun i x b hl hb'=> ?_) (fun i i' x x' b hl hl' hb1 hb2=> ?_)
 ·rcases hcase i x hl with⟨rfl,rfl⟩ | ⟨rfl,rfl⟩
  ·refine⟨?_,by simp [bq,memN],trivial⟩
   simp only [Entry.holds]
   rw [show ρ' i=v' from gk _ _ (qr nQ)]
   refine⟨cs,nQ,oB,fun b hb'=> ?_⟩
   rcases hb b hb' with h6 | h6
   ·constructor
    ·cases hm:B.mem b with
     |none=>rfl
     |some o=>have:=(Array.getElem?_eq_some_iff.1 (h.hf.mem _ _ hm)).1;omega
    ·show ρ.mem b=none
     cases hm:ρ.mem b with
     |none=>rfl
     |some o=>have:=(Array.getElem?_eq_some_iff.1 (h.hf.dat _ _ hm)).1;omega
   ·exact h3 b h6
  ·exact⟨trivial,gm _ iU,trivial⟩
 ·rcases hcase i x hl with⟨rfl,rfl⟩ | ⟨rfl,rfl⟩
  ·simp only [Entry.ob]at hb'
   rw [show ρ' i=v' from gk _ _ (qr nQ)]at hb'
   exact(hb b hb').imp (fun h=>h) (Dk b)
  ·simp [Entry.ob]at hb'
 ·rcases hcase i x hl with⟨rfl,rfl⟩ | ⟨rfl,rfl⟩
  ·rcases hcase i' x' hl' with⟨rfl,rfl⟩ | ⟨rfl,rfl⟩
   ·rfl
   ·simp [Entry.ob]at hb2
  ·simp [Entry.ob]at hb1
theorem Hp.rowNew(h:Hp B ρ ent used w){nid:Nat}{e:TypeId}{t:CTy}{xs:List (E t)}{w':World}{v:Value}{cs:List Value}(hn:used nid=false)
  (hg:w.grownBy w' none) (nQ:xZ w' e t.size v xs.length cs) (oB:iT ρ.mem t cs xs) (hb: ∀ b∈fZ v,w.heap.size≤b):
  let ρ':=upd ρ nid v
  Ext B used ρ ρ'∧Hp B ρ' (be ent [(nid,.row true e t xs)]) (bq used [nid]) w':=by
 intro ρ'
 have Cc:=De hn ρ v
 refine h.chg (Chg.grown hg) Cc (fun _ _ h=>h) (fun k hk=>by cases hk) (fun _ _ hb=> .inl hb) (fun i x hl=> ?_) (fun i x b hl hb'=> ?_) (fun i i' x x' b hl hl' hb1 hb2=> ?_)
 ·obtain⟨rfl,rfl⟩:=look?_one hl
  refine⟨?_,by simp [bq,memN],trivial⟩
  simp only [Entry.holds]
  rw [show ρ' i=v from gk _ _ (qr nQ)]
  refine⟨cs,nQ,oB,fun b hb'=> ?_⟩
  have h6:=hb b hb'
  constructor
  ·cases hm:B.mem b with
   |none=>rfl
   |some o=>have:=(Array.getElem?_eq_some_iff.1 (h.hf.mem _ _ hm)).1;omega
  ·show ρ.mem b=none
   cases hm:ρ.mem b with
   |none=>rfl
   |some o=>have:=(Array.getElem?_eq_some_iff.1 (h.hf.dat _ _ hm)).1;omega
 ·obtain⟨rfl,rfl⟩:=look?_one hl
  simp only [Entry.ob]at hb'
  rw [show ρ' i=v from gk _ _ (qr nQ)]at hb'
  exact .inl (hb b hb')
 ·exact(look?_one hl).1.trans (look?_one hl').1.symm
theorem Hp.rowSet(h:Hp B ρ ent used w){id:Nat}{e:TypeId}{t:CTy}{xs xs':List (E t)}{w':World}{cs:List Value}(he:ent id=some (.row true e t xs))
  (hg:Chg w w' (fun k=>k∈fZ (ρ id))) (nQ:xZ w' e t.size (ρ id) xs'.length cs) (oB:iT ρ.mem t cs xs'):
  Ext B used ρ ρ∧Hp B ρ (be ent [(id,.row true e t xs')]) used w':=by
 obtain⟨⟨cs0,h1,h2,h3⟩,iU,_⟩:=h.he _ _ he
 have Dk: ∀ b∈fZ (ρ id),Was ent ρ [(id,.row true e t xs')] b:=fun b hb=>⟨id,_,_,he,hb,look?_same _ _ _⟩
 rw [show used=bq used [] from rfl]
 refine h.chg hg (fun _ _=>rfl) (fun _ _ h=>h) (fun k hk=>Dk k hk) (fun _ _ hb=> .inl hb) (fun i x hl=> ?_) (fun i x b hl hb'=> ?_) (fun i i' x x' b hl hl' hb1 hb2=> ?_)
 ·obtain⟨rfl,rfl⟩:=look?_one hl
  exact⟨⟨cs,nQ,oB,h3⟩,iU,trivial⟩
 ·obtain⟨rfl,rfl⟩:=look?_one hl
  exact .inr (Dk b hb')
 ·exact(look?_one hl).1.trans (look?_one hl').1.symm
theorem Hp.freeze'(h:Hp B ρ ent used w){id:Nat}{e:TypeId}{t:CTy}{xs:List (E t)}(he:ent id=some (.row true e t xs)):
  ∃ ρ':Nm,ρ'.nm=ρ.nm∧ρ'.fp=ρ.fp∧(∀ b∈fZ (ρ id),∃ o,ρ'.mem b=some o)∧Ext B used ρ ρ'∧Hp B ρ' (be ent [(id,.row false e t xs)]) used w:=by
 obtain⟨⟨cs,h1,h2,h3⟩,iU,_⟩:=h.he _ _ he
 have Dk: ∀ b∈fZ (ρ id),Was ent ρ [(id,.row false e t xs)] b:=fun b hb=>⟨id,_,_,he,hb,look?_same _ _ _⟩
 refine⟨⟨ρ.nm,fun b=>if b∈fZ (ρ id)then w.heap[b]? else ρ.mem b,ρ.fp⟩,rfl,rfl,fun b hb=> ?_,?_⟩
 ·show ∃ o,(if b∈fZ (ρ id)then w.heap[b]? else ρ.mem b)=some o
  rw [if_pos hb]
  obtain⟨_,_,_,hg,_⟩:=Iz h1 hb
  exact⟨_,hg⟩
 have hold: ∀ b o,ρ.mem b=some o→(if b∈fZ (ρ id)then w.heap[b]? else ρ.mem b)=some o:=by
  intro b o hb
  split
  ·exact h.hf.dat b o hb
  ·exact hb
 rw [show used=bq used [] from rfl]
 refine h.chg (Chg.refl w (fun _=>False)) (fun _ _=>rfl) hold (fun _ hx=>hx.elim) (fun b o hb=> ?_) (fun i x hl=> ?_) (fun i x b hl hb'=> ?_) (fun i i' x x' b hl hl' hb1 hb2=> ?_)
 ·simp only at hb
  split at hb
  ·rename_i hm;exact .inr ⟨hb,Entry.ob_unf (h.he _ _ he).1 hm hb,.inr (Dk b hm)⟩
  ·exact .inl hb
 ·obtain⟨rfl,rfl⟩:=look?_one hl
  refine⟨?_,iU,trivial⟩
  show BQ _ t (ρ i) xs
  rcases h1.2 with⟨hv,hn0⟩ | ⟨g,cap,cur,hv,h0,hg,DR,MG,Ba,MH⟩
  ·exact .inl ⟨hv,List.length_eq_zero_iff.1 hn0⟩
  ·refine .inr ⟨g,0,cap,cur,e,(0,0),hv,DR,MG,?_,fun j x hx=> ?_⟩
   ·show (if g∈fZ (ρ i)then w.heap[g]? else ρ.mem g)=_
    rw [if_pos (by rw [hv,pO h0];simp)];exact hg
   ·have:=Rep.mono hold _ _ _ (h2.2 j x hx)
    rw [← MH]at this
    have hj:j < xs.length:=(z7.1 hx).1
    have iM:j * t.size + t.size≤xs.length * t.size:=by
     have:(j + 1) * t.size≤xs.length * t.size:=Nat.mul_le_mul_right _ hj
     rwa [Nat.add_mul,Nat.one_mul]at this
    rw [List.drop_take,List.take_take]at this
    rw [Nat.zero_add]
    rwa [Nat.min_eq_left (by omega)]at this
 ·obtain⟨rfl,rfl⟩:=look?_one hl
  simp [Entry.ob]at hb'
 ·exact(look?_one hl).1.trans (look?_one hl').1.symm
theorem Hp.freeze(h:Hp B ρ ent used w){id:Nat}{e:TypeId}{t:CTy}{xs:List (E t)}(he:ent id=some (.row true e t xs)):
  ∃ ρ':Nm,ρ'.nm=ρ.nm∧Ext B used ρ ρ'∧Hp B ρ' (be ent [(id,.row false e t xs)]) used w:=
 let ⟨ρ',h1,_,_,h2,h3⟩:=h.freeze' he
 ⟨ρ',h1,h2,h3⟩
end
end Go.SX
namespace Go.SX
open Go.RowKit
def CTy.nsl:CTy→Nat
 | .sl _ _=>1
 | .fn=>1
 | .pair a b=>a.nsl + b.nsl
 |_=>0
def qn:(t:CTy)→E t→Nat→List Cell
 | .int k,x,_=> [.val (.int k x)]
 | .bool,b,_=> [.val (.bool b)]
 | .str,s,_=> [.val (.string s)]
 | .pair a b,p,n=>qn a p.1 n++qn b p.2 (n + a.nsl)
 | .sl _ _,_,n=> [.ref n]
 | .fn,_,n=> [.ref n]
def Co:(t:CTy)→E t→Nat→List (Nat×Entry)
 | .pair a b,p,n=>Co a p.1 n++Co b p.2 (n + a.nsl)
 | .sl e t,xs,n=> [(n,.row false e t xs)]
 | .fn,_,n=> [(n,.gone)]
 |_,_,_=> []
def aK:Nat→Nat→List Nat
 |_,0=> []
 |n,k + 1=>n::aK (n + 1) k
theorem mU: ∀ {k n i:Nat},memN (aK n k) i=true↔n≤i∧i < n + k
 |0,n,i=>by simp [aK,memN]
 |k + 1,n,i=>by
  simp only [aK,memN]
  cases hb:Nat.beq n i with
  |true=>have:=q8 hb;subst this;simp
  |false=>
   have Hy:n≠i:=fun e=>by subst e;simp at hb
   simp only [cond_false]
   rw [mU];omega
theorem La: ∀ (t:CTy) (x:E t) (n:Nat),∀ c∈qn t x n,c.inU (fun i=>Nat.ble n i&&Nat.blt i (n + t.nsl))
 | .int _,_,_,c,hc=>by simp only [qn,j8]at hc;subst hc;trivial
 | .bool,_,_,c,hc=>by simp only [qn,j8]at hc;subst hc;trivial
 | .str,_,_,c,hc=>by simp only [qn,j8]at hc;subst hc;trivial
 | .sl _ _,_,n,c,hc=>by
  simp only [qn,j8]at hc;subst hc
  simp [Cell.inU,CTy.nsl,Nat.blt]
 | .fn,_,n,c,hc=>by
  simp only [qn,j8]at hc;subst hc
  simp [Cell.inU,CTy.nsl,Nat.blt]
 | .pair a b,p,n,c,hc=>by
  simp only [qn,z1]at hc
  rcases hc with hc | hc
  ·refine Cell.inU_mono (fun i hi=> ?_) (La a p.1 n c hc)
   simp only [w5,Nat.ble_eq,Nat.blt,CTy.nsl]at hi ⊢;omega
  ·refine Cell.inU_mono (fun i hi=> ?_) (La b p.2 _ c hc)
   simp only [w5,Nat.ble_eq,Nat.blt,CTy.nsl]at hi ⊢;omega
theorem Mb: ∀ (t:CTy) (x:E t) (n:Nat),(qn t x n).length=t.size
 | .int _,_,_=>rfl
 | .bool,_,_=>rfl
 | .str,_,_=>rfl
 | .sl _ _,_,_=>rfl
 | .fn,_,_=>rfl
 | .pair a b,p,n=>by simp only [qn,w6,CTy.size,Mb a,Mb b]
theorem Rep.length{H:Nat→Option Obj}: ∀ (t:CTy) (cs:List Value) (x:E t),Rep H t cs x→cs.length=t.size
 | .int _,_,_,h=>by simp only [Rep]at h;rw [h];rfl
 | .bool,_,_,h=>by simp only [Rep]at h;rw [h];rfl
 | .str,_,_,h=>by simp only [Rep]at h;rw [h];rfl
 | .pair a b,_,_,h=>by
  simp only [Rep]at h
  obtain⟨c1,c2,e,h1,h2⟩:=h
  rw [e,w6,Rep.length a _ _ h1,Rep.length b _ _ h2];rfl
 | .sl _ _,_,_,h=>by simp only [Rep]at h;obtain⟨v,e,_⟩:=h;rw [e];rfl
 | .fn,_,_,h=>by simp only [Rep]at h;obtain⟨v,e,_⟩:=h;rw [e];rfl
theorem Ir{H:Nat→Option Obj}{α:Type}{p:List Value→α→Prop}{z:Nat}{v:Value}{xs:List α}(h:Yp p z H v xs):CU v=v:=by
 rcases h with⟨h,_⟩ | ⟨_,_,_,_,_,_,rfl,_⟩
 ·exact QF h
 ·rfl
theorem Mc: ∀ (t:CTy) (cs:List Value) (x:E t) (n:Nat) (ρ:Nm),Rep ρ.mem t cs x→
  ∃ ρ':Nm,ρ'.mem=ρ.mem∧ρ'.fp=ρ.fp∧(∀ i,i < n∨n + t.nsl≤i→ρ' i=ρ i)∧cs=(qn t x n).map (Cell.conc ρ')∧
   (∀ i e,look? (Co t x n) i=some e→(e= .gone∨ ∃ e0 t0 xs,e= .row false e0 t0 xs∧BQ ρ.mem t0 (ρ' i) xs)∧n≤i∧i < n + t.nsl)
 | .int k,cs,x,n,ρ,h=>⟨ρ,rfl,rfl,fun _ _=>rfl,by simp only [Rep]at h;rw [h];rfl,fun i e he=>by simp [Co,look?]at he⟩
 | .bool,cs,x,n,ρ,h=>⟨ρ,rfl,rfl,fun _ _=>rfl,by simp only [Rep]at h;rw [h];rfl,fun i e he=>by simp [Co,look?]at he⟩
 | .str,cs,x,n,ρ,h=>⟨ρ,rfl,rfl,fun _ _=>rfl,by simp only [Rep]at h;rw [h];rfl,fun i e he=>by simp [Co,look?]at he⟩
 | .sl e t,cs,xs,n,ρ,h=>by
  simp only [Rep]at h
  obtain⟨v,hv,hr⟩:=h
  refine⟨upd ρ n v,rfl,rfl,fun i hi=> ?_,?_,fun i e' he=> ?_⟩
  ·have:Nat.beq i n=false:=by
    cases hb:Nat.beq i n with
    |false=>rfl
    |true=>have:=q8 hb;simp only [CTy.nsl]at hi;omega
   simp only [Nm.of,upd,this,cond_false]
  ·rw [hv];simp [qn,Cell.conc,Nm.of,upd,Ir hr]
  ·simp only [Co]at he
   obtain⟨rfl,rfl⟩:=look?_one he
   refine⟨.inr ⟨e,t,xs,rfl,?_⟩,Nat.le_refl _,by simp [CTy.nsl]⟩
   rw [gk _ _ (Ir hr)];exact hr
 | .fn,cs,x,n,ρ,h=>by
  simp only [Rep]at h
  obtain⟨v,hv,hr⟩:=h
  refine⟨upd ρ n v,rfl,rfl,fun i hi=> ?_,?_,fun i e' he=>by
   simp only [Co]at he
   obtain⟨rfl,rfl⟩:=look?_one he
   exact⟨.inl rfl,Nat.le_refl _,by simp [CTy.nsl]⟩⟩
  ·have:Nat.beq i n=false:=by
    cases hb:Nat.beq i n with
    |false=>rfl
    |true=>have:=q8 hb;simp only [CTy.nsl]at hi;omega
   simp only [Nm.of,upd,this,cond_false]
  ·rw [hv];simp [qn,Cell.conc,Nm.of,upd,hr]
 | .pair a b,cs,p,n,ρ,h=>by
  simp only [Rep]at h
  obtain⟨c1,c2,e,h1,h2⟩:=h
  obtain⟨ρ1,m1,f1,k1,e1,r1⟩:=Mc a c1 p.1 n ρ h1
  obtain⟨ρ2,m2,f2,k2,e2,r2⟩:=Mc b c2 p.2 (n + a.nsl) ρ1 (by rw [m1];exact h2)
  have hk: ∀ i,i < n + a.nsl→ρ2 i=ρ1 i:=fun i hi=>k2 i (.inl hi)
  refine⟨ρ2,m2.trans m1,f2.trans f1,fun i hi=> ?_,?_,fun i e' he=> ?_⟩
  ·simp only [CTy.nsl]at hi
   rw [k2 i (by omega),k1 i (by omega)]
  ·rw [e,e1,e2]
   simp only [qn,List.map_append]
   congr 1
   refine(rB (U:=fun i=>Nat.ble n i&&Nat.blt i (n + a.nsl)) (fun i hi=>hk i ?_) (La a p.1 n)).symm
   simp only [w5,Nat.ble_eq,Nat.blt]at hi;omega
  ·simp only [Co]at he
   rw [look?_append]at he
   cases hl:look? (Co a p.1 n) i with
   |some e0=>
    simp [hl]at he;subst he
    obtain⟨h0,Yn,Xw⟩:=r1 i _ hl
    exact⟨h0.imp id fun⟨e1,t1,xs,he1,hr⟩=>⟨e1,t1,xs,he1,by rw [hk i Xw];exact hr⟩,Yn,by simp only [CTy.nsl];omega⟩
   |none=>
    simp [hl]at he
    obtain⟨h0,Yn,Xw⟩:=r2 i _ he
    rw [m1]at h0
    exact⟨h0,by omega,by simp only [CTy.nsl];omega⟩
def frz(ent:Nat→Option Entry):List Nat→List (Nat×Entry)
 | []=> []
 |id::r=>match ent id with
  |some (.row true e t xs)=>(id,.row false e t xs)::frz ent r
  |_=>frz ent r
def abs(ent:Nat→Option Entry)(t:CTy):Cell→Option (List (E t)×List Nat)
 | .ref id=>match ent id with
  |some (.row _ _ t' xs)=>if h:t'=t then some (h ▸ xs,[id])else none
  |_=>none
 | .val (.slice none 0 0)=>some ([],[])
 |_=>none
def aam(k:IntKind):List Cell→Option (Int×List Nat)
 | [.val (.int k' x)]=>if k'=k then some (x,[])else none
 |_=>none
def Vy:List Cell→Option (Bool×List Nat)
 | [.val (.bool b)]=>some (b,[])
 |_=>none
def aaF:List Cell→Option (ByteArray×List Nat)
 | [.val (.string b)]=>some (b,[])
 |_=>none
def slC(ent:Nat→Option Entry)(t:CTy):List Cell→Option (List (E t)×List Nat)
 | [c]=>abs ent t c
 |_=>none
def fnC:List Cell→Option (Unit×List Nat)
 | [.clo _ _]=>some ((),[])
 | [.bnd _ _]=>some ((),[])
 | [.ref _]=>some ((),[])
 | [.val (.func _ _ _)]=>some ((),[])
 |_=>none
theorem Oe{ρ:Nm}{cs:List Cell}{x:Unit}{ids:List Nat}(h:fnC cs=some (x,ids)):(∃ v,cs.map (Cell.conc ρ)= [v]∧CU v=v)∧ids= []:=by
 unfold fnC at h
 split at h
 ·cases h;exact⟨⟨_,rfl,rfl⟩,rfl⟩
 ·cases h;exact⟨⟨_,rfl,rfl⟩,rfl⟩
 ·cases h;exact⟨⟨_,rfl,CV _⟩,rfl⟩
 ·cases h;exact⟨⟨_,rfl,rfl⟩,rfl⟩
 ·cases h
def wC(ent:Nat→Option Entry):(t:CTy)→List Cell→Option (E t×List Nat)
 | .int k,cs=>aam k cs
 | .bool,cs=>Vy cs
 | .str,cs=>aaF cs
 | .pair a b,cs=>match wC ent a (cs.take a.size),wC ent b (cs.drop a.size)with
  |some (x,l),some (y,m)=>some ((x,y),l++m)
  |_,_=>none
 | .sl _ t,cs=>slC ent t cs
 | .fn,cs=>fnC cs
theorem look?_frz{ent:Nat→Option Entry}: ∀ {l:List Nat} {i:Nat} {e:Entry},look? (frz ent l) i=some e→ ∃ e0 t xs,ent i=some (.row true e0 t xs)∧e= .row false e0 t xs
 | [],i,e,h=>by simp [frz,look?]at h
 |id::r,i,e,h=>by
  simp only [frz]at h
  split at h
  ·rename_i e0 t xs he
   simp only [look?]at h
   cases hb:Nat.beq id i with
   |true=>
    have:=q8 hb;subst this
    simp at h;exact⟨e0,t,xs,he,h.symm⟩
   |false=>simp [hb]at h;exact look?_frz h
  ·exact look?_frz h
theorem look?_frz_mem{ent:Nat→Option Entry}: ∀ {l:List Nat} {i:Nat} {e0:TypeId} {t:CTy} {xs:List (E t)},i∈l→ent i=some (.row true e0 t xs)→look? (frz ent l) i=some (.row false e0 t xs)
 | [],i,_,_,_,h,_=>by cases h
 |id::r,i,e0,t,xs,h,he=>by
  simp only [frz]
  rcases List.mem_cons.1 h with rfl | h
  ·rw [he];exact look?_same _ _ _
  ·split
   ·rename_i e1 t1 xs1 he1
    simp only [look?]
    cases hb:Nat.beq id i with
    |true=>
     have:=q8 hb;subst this
     rw [he]at he1;cases he1;rfl
    |false=>exact look?_frz_mem h he
   ·exact look?_frz_mem h he
section
variable{B:Base}{ρ:Nm}{ent:Nat→Option Entry}{used:Nat→Bool}{w:World}
theorem Hp.freezes{e0:Nat→Option Entry}(hs: ∀ id e,e0 id=some e→ent id=some e)(h:Hp B ρ ent used w): ∀ (l:List Nat),∃ ρ':Nm,ρ'.nm=ρ.nm∧Ext B used ρ ρ'∧Hp B ρ' (be ent (frz e0 l)) used w
 | []=>⟨ρ,rfl,Ext.refl _ _ _,h⟩
 |id::r=>by
  obtain⟨ρ1,n1,x1,h1⟩:=Hp.freezes hs h r
  simp only [frz]
  split
  ·rename_i e t xs he
   cases hl:look? (frz e0 r) id with
   |none=>
    have he':be ent (frz e0 r) id=some (.row true e t xs):=by simp only [be,hl];exact hs _ _ he
    obtain⟨ρ2,n2,x2,h2⟩:=h1.freeze he'
    rw [ux]at h2
    exact⟨ρ2,n2.trans n1,x1.trans x2 fun _ h=>h,h2⟩
   |some e1=>
    obtain⟨e9,t0,xs0,h3,h4⟩:=look?_frz hl
    rw [he]at h3;cases h3
    refine⟨ρ1,n1,x1,?_⟩
    rw [show be ent ((id,Entry.row false e t xs)::frz e0 r)=be ent (frz e0 r) from funext fun i=>by
     simp only [be,look?]
     cases hb:Nat.beq id i with
     |true=>have:=q8 hb;subst this;simp [hl,h4]
     |false=>rfl]
    exact h1
  ·exact⟨ρ1,n1,x1,h1⟩
theorem Zj{e0:Nat→Option Entry}(hs: ∀ id e,e0 id=some e→ent id=some e){l:List Nat}(h:Hp B ρ (be ent (frz e0 l)) used w){t:CTy}{c:Cell}{xs:List (E t)}{ids:List Nat}(hc:abs e0 t c=some (xs,ids))(hl: ∀ id∈ids,id∈l):BQ ρ.mem t (c.conc ρ) xs:=by
 unfold abs at hc
 split at hc
 ·rename_i id
  split at hc
  ·rename_i own e t' ys he
   split at hc
   ·rename_i ht
    subst ht
    simp only [q9,j6]at hc
    obtain⟨rfl,rfl⟩:=hc
    cases own with
    |true=>
     have:=look?_frz_mem (hl id (by simp)) he
     have h2:be ent (frz e0 l) id=some (.row false e t' ys):=by simp only [be,this]
     exact(h.he id _ h2).1
    |false=>
     cases hq:look? (frz e0 l) id with
     |none=>exact(h.he id _ (by simp only [be,hq];exact hs _ _ he)).1
     |some e1=>obtain⟨_,_,_,h3,_⟩:=look?_frz hq;rw [he]at h3;cases h3
   ·cases hc
  ·cases hc
 ·simp only [q9,j6]at hc
  obtain⟨rfl,rfl⟩:=hc
  exact .inl ⟨.inl rfl,rfl⟩
 ·cases hc
theorem EZ{e0:Nat→Option Entry}(hs: ∀ id e,e0 id=some e→ent id=some e){l:List Nat}(h:Hp B ρ (be ent (frz e0 l)) used w): ∀ (t:CTy) (cs:List Cell) (x:E t) (ids:List Nat),wC e0 t cs=some (x,ids)→(∀ id∈ids,id∈l)→Rep ρ.mem t (cs.map (Cell.conc ρ)) x
 | .int k,cs,x,ids,hc,hl=>by
  simp only [wC]at hc
  unfold aam at hc
  split at hc
  ·split at hc
   ·rename_i hk;subst hk
    cases hc
    exact rfl
   ·cases hc
  ·cases hc
 | .bool,cs,x,ids,hc,hl=>by
  simp only [wC]at hc
  unfold Vy at hc
  split at hc
  ·cases hc;exact rfl
  ·cases hc
 | .str,cs,x,ids,hc,hl=>by
  simp only [wC]at hc
  unfold aaF at hc
  split at hc
  ·cases hc;exact rfl
  ·cases hc
 | .sl e t,cs,x,ids,hc,hl=>by
  simp only [wC]at hc
  unfold slC at hc
  split at hc
  ·simp only [Rep]
   exact⟨_,rfl,Zj hs h hc hl⟩
  ·cases hc
 | .fn,cs,x,ids,hc,hl=>by
  simp only [wC]at hc
  simp only [Rep];exact(Oe hc).1
 | .pair a b,cs,x,ids,hc,hl=>by
  simp only [wC]at hc
  split at hc
  ·rename_i x1 l1 y1 m1 h1 h2
   cases hc
   simp only [Rep]
   refine⟨(cs.take a.size).map (Cell.conc ρ),(cs.drop a.size).map (Cell.conc ρ),?_,EZ hs h a _ _ _ h1 fun i hi=>hl i (by simp [hi]),EZ hs h b _ _ _ h2 fun i hi=>hl i (by simp [hi])⟩
   rw [← List.map_append,List.take_append_drop]
  ·cases hc
end
theorem Rep.one{H:Nat→Option Obj}: ∀ (t:CTy) (cs:List Value) (x:E t),Rep H t cs x→ ∀ u∈cs,u.oneCell'=true
 | .int _,_,_,h,u,hu=>by simp only [Rep]at h;rw [h]at hu;simp at hu;subst hu;rfl
 | .bool,_,_,h,u,hu=>by simp only [Rep]at h;rw [h]at hu;simp at hu;subst hu;rfl
 | .str,_,_,h,u,hu=>by simp only [Rep]at h;rw [h]at hu;simp at hu;subst hu;rfl
 | .pair a b,_,_,h,u,hu=>by
  simp only [Rep]at h
  obtain⟨c1,c2,e,h1,h2⟩:=h
  rw [e]at hu
  rcases z1.1 hu with hu | hu
  ·exact Rep.one a _ _ h1 u hu
  ·exact Rep.one b _ _ h2 u hu
 | .sl _ _,_,_,h,u,hu=>by
  simp only [Rep]at h
  obtain⟨v,e,hv⟩:=h
  rw [e]at hu;simp at hu;subst hu
  rcases hv with⟨rfl | ⟨_,_,rfl⟩,_⟩ | ⟨_,_,_,_,_,_,rfl,_⟩ <;> rfl
 | .fn,_,_,h,u,hu=>by
  simp only [Rep]at h
  obtain⟨v,e,hv⟩:=h
  rw [e]at hu;simp at hu;subst hu
  rw [← hv];exact RC _
theorem rE: ∀ t:CTy,0 < t.size
 | .int _=>by simp [CTy.size]
 | .bool=>by simp [CTy.size]
 | .str=>by simp [CTy.size]
 | .pair a b=>by have:=rE a;simp only [CTy.size];omega
 | .sl _ _=>by simp [CTy.size]
 | .fn=>by simp [CTy.size]
theorem iT.nil(H:Nat→Option Obj)(t:CTy):iT H t [] []:=⟨by simp,fun i x h=>by simp at h⟩
theorem qO{n i z:Nat}(h:i < n):i * z + z≤n * z:=by
 have:(i + 1) * z≤n * z:=Nat.mul_le_mul_right _ h
 rwa [Nat.add_mul,Nat.one_mul]at this
theorem iT.append{H:Nat→Option Obj}{t:CTy}{cs ds:List Value}{xs ys:List (E t)}(h:iT H t cs xs)(h':iT H t ds ys):iT H t (cs++ds) (xs++ys):=by
 refine⟨by rw [w6,w6,h.1,h'.1,Nat.add_mul],fun i x hx=> ?_⟩
 by_cases hi:i < xs.length
 ·have hx':xs[i]? =some x:=by rwa [List.getElem?_append_left hi]at hx
  have:=h.2 i x hx'
  have DR:=qO (z:=t.size) hi
  rw [List.drop_append_of_le_length (by rw [h.1];omega),List.take_append_of_le_length (by rw [List.length_drop,h.1];omega)]
  exact this
 ·have hx':ys[i - xs.length]? =some x:=by rwa [List.getElem?_append_right (by omega)]at hx
  have:=h'.2 _ x hx'
  have hm:i * t.size=xs.length * t.size + (i - xs.length) * t.size:=by rw [← Nat.add_mul];congr 1;omega
  rw [hm,← h.1,List.drop_append,List.drop_eq_nil_of_le (by omega),List.nil_append,Nat.add_sub_cancel_left]
  exact this
theorem iT.one{H:Nat→Option Obj}{t:CTy}{cs:List Value}{x:E t}(h:Rep H t cs x):iT H t cs [x]:=by
 have hl:=Rep.length t cs x h
 refine⟨by simp [hl],fun i y hy=> ?_⟩
 cases i with
 |zero=>simp at hy;subst hy;rw [Nat.zero_mul,List.drop_zero,← hl,List.take_length];exact h
 |succ i=>simp at hy
theorem iT.set{H:Nat→Option Obj}{t:CTy}{cs ds:List Value}{xs:List (E t)}(h:iT H t cs xs){i:Nat}(hi:i < xs.length){y:E t}(hy:Rep H t ds y):
  iT H t (cs.take (i * t.size)++ds++cs.drop (i * t.size + t.size)) (xs.set i y):=by
 have hl:=Rep.length t ds y hy
 have DR:=qO (z:=t.size) hi
 refine⟨by simp only [w6,w7,List.length_drop,h.1,hl,j9];omega,fun j x hx=> ?_⟩
 rw [List.getElem?_set]at hx
 by_cases Sa:i=j
 ·subst Sa
  simp [hi]at hx;subst hx
  rw [List.append_assoc,List.drop_append,List.drop_take,Nat.sub_self,List.take_zero,List.nil_append,w7,h.1,Nat.min_eq_left (by omega),Nat.sub_self,List.drop_zero,
   List.take_append_of_le_length (by omega),← hl,List.take_length]
  exact hy
 ·simp only [Sa,if_false]at hx
  have hj:=(z7.1 hx).1
  have:=h.2 j x hx
  by_cases iM:j < i
  ·have h1:j * t.size + t.size≤i * t.size:=qO iM
   have e:(cs.take (i * t.size)++ds++cs.drop (i * t.size + t.size)).drop (j * t.size)=(cs.drop (j * t.size)).take (i * t.size - j * t.size)++(ds++cs.drop (i * t.size + t.size)):=by
    rw [List.append_assoc,List.drop_append_of_le_length (by rw [w7,h.1];omega),List.drop_take]
   rw [e,List.take_append_of_le_length (by rw [w7,List.length_drop,h.1];omega),List.take_take,Nat.min_eq_left (by omega)]
   exact this
  ·have hgt:i < j:=by omega
   have h1:i * t.size + t.size≤j * t.size:=qO hgt
   have e:(cs.take (i * t.size)++ds++cs.drop (i * t.size + t.size)).drop (j * t.size)=cs.drop (j * t.size):=by
    rw [List.drop_append,List.drop_eq_nil_of_le (by rw [w6,w7,h.1,hl];omega),List.nil_append,w6,w7,h.1,hl,List.drop_drop]
    congr 1;omega
   rw [e];exact this
theorem BQ.cells{H:Nat→Option Obj}{w:World}(hH: ∀ b o,H b=some o→w.heap[b]? =some o){t:CTy}{v:Value}{xs:List (E t)}(h:BQ H t v xs):
  (PQ v∧xs= [])∨
  ∃ b off cap arr T fz,v= .slice (some ⟨b,off,none⟩) xs.length cap∧xs.length≤cap∧cap≤maxLen∧w.heap[b]? =some (.cells arr T fz)∧H b=some (.cells arr T fz)∧
   (xs= []∨iT H t ((arr.toList.drop off).take (xs.length * t.size)) xs):=by
 rcases h with h | ⟨b,off,cap,arr,T,fz,h1,h2,h3,h4,h5⟩
 ·exact .inl h
 ·refine .inr ⟨b,off,cap,arr,T,fz,h1,h2,h3,hH _ _ h4,h4,?_⟩
  cases Yo:xs with
  |nil=>exact .inl rfl
  |cons x0 xr=>
   right
   rw [← Yo]
   have kg:off + xs.length * t.size≤arr.toList.length:=by
    have hlast:xs.length - 1 < xs.length:=by rw [Yo];simp
    have:=h5 (xs.length - 1) _ (List.getElem?_eq_getElem hlast)
    have hl:=Rep.length t _ _ this
    rw [w7,List.length_drop]at hl
    have hp:=rE t
    have e:xs.length * t.size=(xs.length - 1) * t.size + t.size:=by
     have:(xs.length - 1 + 1) * t.size=(xs.length - 1) * t.size + t.size:=by rw [Nat.add_mul,Nat.one_mul]
     rw [← this];congr 1;omega
    omega
   refine⟨by rw [w7,List.length_drop];omega,fun i x hx=> ?_⟩
   have:=h5 i x hx
   have DR:=qO (z:=t.size) (z7.1 hx).1
   rw [List.drop_take,List.drop_drop,List.take_take,Nat.min_eq_left (by omega)]
   exact this
end Go.SX
namespace Go.SX
open Go.RowKit
theorem iT.flat0{H H':Nat→Option Obj}{t:CTy}(hf:t.flat=true){cs:List Value}{xs:List (E t)}(h:iT H t cs xs):iT H' t cs xs:=by
 refine⟨h.1,fun i x hx=> ?_⟩
 rw [Rep.flat t _ _ hf (h.2 i x hx)]
 exact Rep.of_flat t x hf
def ace(ent:Nat→Option Entry)(e:TypeId)(t:CTy):Cell→Option (List (E t)×List Nat)
 | .ref id=>match ent id with
  |some (.row true e' t' xs)=>if h:t'=t then(bif Nat.beq e e' then some (h ▸ xs,[id])else none)else none
  |_=>none
 | .val (.slice none 0 0)=>some ([],[])
 |_=>none
def slT(ent:Nat→Option Entry)(e:TypeId)(t:CTy):List Cell→Option (List (E t)×List Nat)
 | [c]=>match t.flat with
  |true=>ace ent e t c
  |false=>none
 |_=>none
def wD(ent:Nat→Option Entry):(t:CTy)→List Cell→Option (E t×List Nat)
 | .int k,cs=>aam k cs
 | .bool,cs=>Vy cs
 | .str,cs=>aaF cs
 | .pair a b,cs=>match wD ent a (cs.take a.size),wD ent b (cs.drop a.size)with
  |some (x,l),some (y,m)=>some ((x,y),l++m)
  |_,_=>none
 | .sl e t,cs=>slT ent e t cs
 | .fn,cs=>fnC cs
def Oc(ent:Nat→Option Entry)(t:CTy):List Cell→Nat→Option (List (E t)×List (List Nat))
 | [],0=>some ([],[])
 |_::_,0=>none
 |cs,n + 1=>match wD ent t (cs.take t.size),Oc ent t (cs.drop t.size) n with
  |some (x,l),some (xs,m)=>some (x::xs,l::m)
  |_,_=>none
theorem Lg{α:Type}{l:List α}{k j:Nat}{a b:α}(h:(l.set k a)[j]? =some b):(j=k∧b=a)∨(j≠k∧l[j]? =some b):=by
 by_cases hkj:k=j
 ·subst hkj
  have iM:=(z7.1 h).1
  rw [j9]at iM
  rw [List.getElem?_set_self iM]at h;cases h;exact .inl ⟨rfl,rfl⟩
 ·rw [List.getElem?_set_ne hkj]at h
  exact .inr ⟨fun h=>hkj h.symm,h⟩
theorem Jv{ent:Nat→Option Entry}: ∀ {t:CTy} {cs:List Cell} {x:E t} {ids:List Nat},wD ent t cs=some (x,ids)→ ∀ i∈ids,∃ e t xs,ent i=some (.row true e t xs)
 | .int k,cs,x,ids,hc,i,hi=>by
  simp only [wD]at hc;unfold aam at hc
  split at hc
  ·split at hc
   ·cases hc;cases hi
   ·cases hc
  ·cases hc
 | .bool,cs,x,ids,hc,i,hi=>by
  simp only [wD]at hc;unfold Vy at hc
  split at hc
  ·cases hc;cases hi
  ·cases hc
 | .str,cs,x,ids,hc,i,hi=>by
  simp only [wD]at hc;unfold aaF at hc
  split at hc
  ·cases hc;cases hi
  ·cases hc
 | .pair a b,cs,x,ids,hc,i,hi=>by
  simp only [wD]at hc
  split at hc
  ·rename_i h1 h2;cases hc
   rcases z1.1 hi with hi | hi
   ·exact Jv h1 i hi
   ·exact Jv h2 i hi
  ·cases hc
 | .sl e t,cs,x,ids,hc,i,hi=>by
  simp only [wD]at hc
  unfold slT at hc
  split at hc
  ·split at hc
   ·unfold ace at hc
    split at hc
    ·split at hc
     ·rename_i e' t' ys he'
      split at hc
      ·rename_i ht;subst ht
       cases hb:Nat.beq e e' with
       |false=>rw [hb]at hc;cases hc
       |true=>rw [hb]at hc;simp only [cond_true,q9,j6]at hc;obtain⟨_,rfl⟩:=hc;simp at hi;subst hi;exact⟨_,_,_,he'⟩
      ·cases hc
     ·cases hc
    ·cases hc;cases hi
    ·cases hc
   ·cases hc
  ·cases hc
 | .fn,cs,x,ids,hc,i,hi=>by
  simp only [wD]at hc
  rw [(Oe (ρ:=⟨fun _=> .slice none 0 0,fun _=>none,fun _=> []⟩) hc).2]at hi;cases hi
def Hx(G:List Nat):List (Nat×Entry):=G.map fun g=>(g,Entry.gone)
theorem look?_gone: ∀ {G:List Nat} {i:Nat} {e:Entry},look? (Hx G) i=some e→i∈G∧e= .gone
 | [],i,e,h=>by simp [Hx,look?]at h
 |g::G,i,e,h=>by
  simp only [Hx,z6,look?]at h
  cases hb:Nat.beq g i with
  |true=>
   have:=q8 hb;subst this
   simp at h;exact⟨by simp,h.symm⟩
  |false=>
   simp only [hb,cond_false]at h
   obtain⟨h1,h2⟩:=look?_gone (G:=G) h
   exact⟨by simp [h1],h2⟩
theorem look?_gone_mem: ∀ {G:List Nat} {i:Nat},i∈G→look? (Hx G) i=some .gone
 | [],i,h=>by cases h
 |g::G,i,h=>by
  simp only [Hx,z6,look?]
  cases hb:Nat.beq g i with
  |true=>rfl
  |false=>
   rcases List.mem_cons.1 h with rfl | h
   ·rw [show Nat.beq i i=true from Nat.beq_refl i]at hb;cases hb
   ·exact look?_gone_mem (G:=G) h
section
variable{B:Base}{ρ:Nm}{ent:Nat→Option Entry}{used:Nat→Bool}{w:World}
theorem Hp.fresh_none(h:Hp B ρ ent used w){b:Nat}(hb:w.heap.size≤b):B.mem b=none∧ρ.mem b=none:=by
 constructor
 ·cases hm:B.mem b with
  |none=>rfl
  |some o=>have:=(Array.getElem?_eq_some_iff.1 (h.hf.mem _ _ hm)).1;omega
 ·cases hm:ρ.mem b with
  |none=>rfl
  |some o=>have:=(Array.getElem?_eq_some_iff.1 (h.hf.dat _ _ hm)).1;omega
theorem Zk(h:Hp B ρ ent used w){e:TypeId}{t:CTy}{c:Cell}{xs:List (E t)}{ids:List Nat}(hc:ace ent e t c=some (xs,ids))(hf:t.flat=true):
  ∃ ds,xZ w e t.size (c.conc ρ) xs.length ds∧iT (fun _=>none) t ds xs∧(∀ b∈fZ (c.conc ρ),∃ i∈ids,∃ e0,ent i=some e0∧b∈e0.ob ρ i)∧ ∀ i∈ids,∃ e0,ent i=some e0:=by
 unfold ace at hc
 split at hc
 ·rename_i id
  split at hc
  ·rename_i e' t' ys he
   split at hc
   ·rename_i ht
    subst ht
    cases hb:Nat.beq e e' with
    |false=>rw [hb]at hc;cases hc
    |true=>
     rw [hb]at hc
     simp only [cond_true,q9,j6]at hc
     obtain⟨rfl,rfl⟩:=hc
     have:=q8 hb;subst this
     obtain⟨ds,h1,h2,_⟩:=(h.he _ _ he).1
     exact⟨ds,h1,iT.flat0 hf h2,fun b hb=>⟨id,by simp,_,he,hb⟩,fun i hi=>by simp at hi;subst hi;exact⟨_,he⟩⟩
   ·cases hc
  ·cases hc
 ·simp only [q9,j6]at hc
  obtain⟨rfl,rfl⟩:=hc
  exact⟨[],Lb _ _ _,iT.nil _ _,fun b hb=>by simp [Cell.conc,fZ]at hb,fun i hi=>by cases hi⟩
 ·cases hc
theorem Fk(h:Hp B ρ ent used w): ∀ (t:CTy) (cs:List Cell) (x:E t) (ids:List Nat),wD ent t cs=some (x,ids)→ids.Nodup→
  ∃ L,oo w t (cs.map (Cell.conc ρ)) x L∧(∀ b∈L,∃ i∈ids,∃ e0,ent i=some e0∧b∈e0.ob ρ i)∧ ∀ i∈ids,∃ e0,ent i=some e0
 | .int k,cs,x,ids,hc,_=>by
  simp only [wD]at hc
  unfold aam at hc
  split at hc
  ·split at hc
   ·rename_i hk;subst hk
    cases hc
    exact⟨[],⟨rfl,rfl⟩,fun b hb=>(by cases hb),fun i hi=>(by cases hi)⟩
   ·cases hc
  ·cases hc
 | .bool,cs,x,ids,hc,_=>by
  simp only [wD]at hc
  unfold Vy at hc
  split at hc
  ·cases hc;exact⟨[],⟨rfl,rfl⟩,fun b hb=>(by cases hb),fun i hi=>(by cases hi)⟩
  ·cases hc
 | .str,cs,x,ids,hc,_=>by
  simp only [wD]at hc
  unfold aaF at hc
  split at hc
  ·cases hc;exact⟨[],⟨rfl,rfl⟩,fun b hb=>(by cases hb),fun i hi=>(by cases hi)⟩
  ·cases hc
 | .sl e t,cs,x,ids,hc,_=>by
  simp only [wD]at hc
  unfold slT at hc
  split at hc
  ·rename_i c
   split at hc
   ·rename_i hf
    obtain⟨ds,h1,h2,h3,h4⟩:=Zk h hc hf
    exact⟨_,by simp only [oo];exact⟨_,ds,rfl,rfl,hf,h1,h2⟩,h3,h4⟩
   ·cases hc
  ·cases hc
 | .fn,cs,x,ids,hc,_=>by
  simp only [wD]at hc
  obtain⟨h1,h2⟩:=Oe hc
  exact⟨[],by simp only [oo];exact⟨h1,trivial⟩,fun b hb=>(by cases hb),fun i hi=>(by rw [h2]at hi;cases hi)⟩
 | .pair a b,cs,x,ids,hc,hd=>by
  simp only [wD]at hc
  split at hc
  ·rename_i x1 l1 y1 m1 h1 h2
   cases hc
   obtain⟨hd1,hd2,hd3⟩:=List.nodup_append.1 hd
   obtain⟨L1,k1,k2,k3⟩:=Fk h a _ _ _ h1 hd1
   obtain⟨L2,j1,j2,j3⟩:=Fk h b _ _ _ h2 hd2
   refine⟨L1++L2,?_,fun b hb=> ?_,fun i hi=> ?_⟩
   ·simp only [oo]
    refine⟨_,_,L1,L2,?_,rfl,k1,j1,fun k hk hk'=> ?_⟩
    ·rw [← List.map_append,List.take_append_drop]
    ·obtain⟨i,hi,e0,he0,hb0⟩:=k2 k hk
     obtain⟨j,hj,e1,he1,hb1⟩:=j2 k hk'
     have:=h.hi _ _ _ _ k he0 he1 hb0 hb1
     exact hd3 i hi j hj this
   ·rcases z1.1 hb with hb | hb
    ·obtain⟨i,hi,r⟩:=k2 b hb;exact⟨i,List.mem_append_left _ hi,r⟩
    ·obtain⟨i,hi,r⟩:=j2 b hb;exact⟨i,w8 _ hi,r⟩
   ·rcases z1.1 hi with hi | hi
    ·exact k3 i hi
    ·exact j3 i hi
  ·cases hc
theorem PB(h:Hp B ρ ent used w){t:CTy}: ∀ {n:Nat} {cs:List Cell} {xs:List (E t)} {idss:List (List Nat)},Oc ent t cs n=some (xs,idss)→(ol idss).Nodup→
  ∃ Ls,HI w ρ t (cs.map (Cell.conc ρ)) xs Ls none∧(∀ (k:Nat) l,Ls[k]? =some l→ ∀ b∈l,∃ ids,idss[k]? =some ids∧ ∃ i∈ids,∃ e0,ent i=some e0∧b∈e0.ob ρ i)∧(∀ i∈ol idss,∃ e0,ent i=some e0)∧xs.length=n∧cs.length=n * t.size
 |0,[],xs,idss,hc,_=>by
  simp only [Oc,q9,j6]at hc
  obtain⟨rfl,rfl⟩:=hc
  exact⟨[],⟨rfl,fun k hc h=>(by cases h),fun i x l _ hx=>by simp at hx,fun i j l l' k hl=>by simp at hl⟩,fun k l hl=>by simp at hl,fun i hi=>by simp [ol]at hi,rfl,by simp⟩
 |0,_::_,xs,idss,hc,_=>by simp [Oc]at hc
 |n + 1,cs,xs,idss,hc,hd=>by
  have hc':(match wD ent t (cs.take t.size),Oc ent t (cs.drop t.size) n with
   |some (x,l),some (xs,m)=>some (x::xs,l::m)
   |_,_=>none)=some (xs,idss):=by cases cs <;> exact hc
  split at hc'
  ·rename_i x l ys m h1 h2
   simp only [q9,j6]at hc'
   obtain⟨rfl,rfl⟩:=hc'
   simp only [ol]at hd
   obtain⟨hd1,hd2,hd3⟩:=List.nodup_append.1 hd
   obtain⟨L,k1,k2,k3⟩:=Fk h t _ _ _ h1 hd1
   obtain⟨Ls,⟨t1,t2,t3,t4⟩,j2,j3,j4,j5⟩:=PB h h2 hd2
   have kg:(cs.take t.size).length=t.size:=by
    have hr: ∀ (t:CTy) (cs:List Value) (x:E t) (L:List Nat),oo w t cs x L→cs.length=t.size:=by
     intro t
     induction t with
     |int k=>intro cs x L h;simp only [oo]at h;rw [h.1];rfl
     |bool=>intro cs x L h;simp only [oo]at h;rw [h.1];rfl
     |str=>intro cs x L h;simp only [oo]at h;rw [h.1];rfl
     |pair a b iha ihb=>
      intro cs x L h;simp only [oo]at h
      obtain⟨c1,c2,_,_,rfl,_,h1,h2,_⟩:=h
      rw [w6,iha _ _ _ h1,ihb _ _ _ h2];rfl
     |sl e t _=>intro cs x L h;simp only [oo]at h;obtain⟨v,ds,rfl,_⟩:=h;rfl
     |fn=>intro cs x L h;simp only [oo]at h;obtain⟨⟨v,rfl,_⟩,_⟩:=h;rfl
    have:=hr _ _ _ _ k1
    rwa [List.length_map]at this
   have Kg:cs.length=t.size + (cs.drop t.size).length:=by
    have:=congrArg List.length (List.take_append_drop t.size cs)
    rw [w6,kg]at this;omega
   have hdrop: ∀ i,(((cs.map (Cell.conc ρ)).drop ((i + 1) * t.size)).take t.size)=((((cs.drop t.size).map (Cell.conc ρ)).drop (i * t.size)).take t.size):=by
    intro i
    rw [List.map_drop,List.drop_drop]
    congr 2
    rw [Nat.add_mul,Nat.one_mul];omega
   have hkey: ∀ (k:Nat) l0,(L::Ls)[k]? =some l0→ ∀ b∈l0,∃ ids,(l::m)[k]? =some ids∧ ∃ i∈ids,∃ e0,ent i=some e0∧b∈e0.ob ρ i:=by
    intro k l0 hl0 b hb
    cases k with
    |zero=>simp at hl0;subst hl0;exact⟨l,rfl,k2 b hb⟩
    |succ k=>exact j2 k l0 (by simpa using hl0) b hb
   refine⟨L::Ls,⟨by simp [t1],fun k hc h=>(by cases h),fun i x' l' _ hx hl=> ?_,fun i j l1 l2 k hi hj hk hk'=> ?_⟩,hkey,fun i hi=> ?_,by simp [j4],by rw [Kg,j5,Nat.add_mul,Nat.one_mul];omega⟩
   ·cases i with
    |zero=>
     simp at hx hl;subst hx hl
     rw [Nat.zero_mul,List.drop_zero,← List.map_take];exact k1
    |succ i=>
     rw [hdrop]
     exact t3 i x' l' (fun k hc h=>by cases h) (by simpa using hx) (by simpa using hl)
   ·obtain⟨ids1,q1,i1,hi1,e1,he1,hb1⟩:=hkey i l1 hi k hk
    obtain⟨ids2,q2,i2,hi2,e2,he2,hb2⟩:=hkey j l2 hj k hk'
    have:=h.hi _ _ _ _ k he1 he2 hb1 hb2
    subst this
    have hn: ∀ (L:List (List Nat)) (i j:Nat) (a b:List Nat) (x:Nat),(ol L).Nodup→L[i]? =some a→L[j]? =some b→x∈a→x∈b→i=j:=by
     intro L
     induction L with
     |nil=>intro i j a b x _ h;simp at h
     |cons u r ih=>
      intro i j a b x hn ha hb hxa hxb
      simp only [ol]at hn
      obtain⟨n1,n2,n3⟩:=List.nodup_append.1 hn
      cases i with
      |zero=>
       cases j with
       |zero=>rfl
       |succ j=>
        simp at ha hb;subst ha
        exact(n3 x hxa x (mb.2 ⟨j,b,hb,hxb⟩) rfl).elim
      |succ i=>
       cases j with
       |zero=>
        simp at ha hb;subst hb
        exact(n3 x hxb x (mb.2 ⟨i,a,ha,hxa⟩) rfl).elim
       |succ j=>
        simp at ha hb
        rw [ih i j a b x n2 ha hb hxa hxb]
    exact hn (l::m) i j ids1 ids2 i1 (by simpa [ol] using hd) q1 q2 hi1 hi2
   ·simp only [ol,z1]at hi
    rcases hi with hi | hi
    ·exact k3 i hi
    ·exact j3 i hi
  ·cases hc'
theorem Hp.toTree(h:Hp B ρ ent used w){ρ':Nm}{w':World}{X:Nat→Prop}{G:List Nat}{id:Nat}{new:List Nat}{e:TypeId}{t:CTy}{xs:List (E t)}{ho:Option (Nat×List Cell)}{cs:List Value}{Ls:List (List Nat)}
  (hc:Chg w w' X) (Cc: ∀ i,used i=true→ρ' i=ρ i) (CG:ρ'.mem=ρ.mem) (hfp: ∀ i,i≠id→ρ'.fp i=ρ.fp i) (hG: ∀ g∈G,used g=true)
  (iU:bq used new id=true) (uL:(Entry.tree e t xs ho).inU (bq used new))
  (hX: ∀ k,X k→ ∃ g,(g=id∨g∈G)∧ ∃ e0,ent g=some e0∧k∈e0.ob ρ g)
  (hb: ∀ b,b∈fZ (ρ' id)++ol Ls→w.heap.size≤b∨ ∃ g,(g=id∨g∈G)∧ ∃ e0,ent g=some e0∧b∈e0.ob ρ g)
  (nQ:xZ w' e t.size (ρ' id) xs.length cs) (oB:HI w' ρ' t cs xs Ls ho) (hf:ρ'.fp id=ol Ls) (hdj: ∀ b∈fZ (ρ' id),b∉ol Ls):
  Ext B used ρ ρ'∧Hp B ρ' (be ent ((id,.tree e t xs ho)::Hx G)) (bq used new) w':=by
 have Jz: ∀ i x,look? ((id,Entry.tree e t xs ho)::Hx G) i=some x→(i=id∧x= .tree e t xs ho)∨(i≠id∧i∈G∧x= .gone):=by
  intro i x hl
  simp only [look?]at hl
  cases hq:Nat.beq id i with
  |true=>simp [hq]at hl;exact .inl ⟨(q8 hq).symm,hl.symm⟩
  |false=>
   simp only [hq,cond_false]at hl
   obtain⟨h1,h2⟩:=look?_gone hl
   exact .inr ⟨fun he=>by subst he;simp at hq,h1,h2⟩
 have Dk: ∀ b,(∃ g,(g=id∨g∈G)∧ ∃ e0,ent g=some e0∧b∈e0.ob ρ g)→Was ent ρ ((id,Entry.tree e t xs ho)::Hx G) b:=by
  rintro b ⟨g,hg,e0,h1,h2⟩
  cases hq:Nat.beq id g with
  |true=>
   have:=q8 hq;subst this
   exact⟨id,e0,_,h1,h2,look?_same _ _ _⟩
  |false=>
   rcases hg with rfl | hg
   ·simp at hq
   ·exact⟨g,e0,.gone,h1,h2,by simp only [look?,hq,cond_false];exact look?_gone_mem hg⟩
 refine h.chg hc Cc (fun _ _ hb=>by rw [CG];exact hb) (fun k hk=>Dk k (hX k hk)) (fun _ _ hb=> .inl (by rw [← CG];exact hb)) (fun i x hl=> ?_) (fun i x b hl hb'=> ?_) (fun i i' x x' b hl hl' hb1 hb2=> ?_) (fun i _ hl=> ?_)
 ·rcases Jz i x hl with⟨rfl,rfl⟩ | ⟨_,hg,rfl⟩
  ·refine⟨?_,iU,uL⟩
   refine⟨cs,Ls,nQ,oB,hf,by rw [hf];exact hdj,fun b hb'=> ?_⟩
   rw [hf]at hb'
   rw [CG]
   rcases hb b hb' with h6 | ⟨g,_,e0,h1,h2⟩
   ·exact h.fresh_none h6
   ·exact(Entry.ob_lt (h.he g e0 h1).1 h2).2
  ·exact⟨trivial,gm _ (hG _ hg),trivial⟩
 ·rcases Jz i x hl with⟨rfl,rfl⟩ | ⟨_,_,rfl⟩
  ·simp only [Entry.ob,hf]at hb'
   exact(hb b hb').imp id (Dk b)
  ·cases hb'
 ·rcases Jz i x hl with⟨rfl,rfl⟩ | ⟨_,_,rfl⟩
  ·rcases Jz i' x' hl' with⟨rfl,rfl⟩ | ⟨_,_,rfl⟩
   ·rfl
   ·cases hb2
  ·cases hb1
 ·refine hfp i fun he=> ?_
  subst he
  rw [look?_same]at hl;cases hl
end
def wB:(t:CTy)→E t→Nat→List (Nat×Entry)
 | .pair a b,p,n=>wB a p.1 n++wB b p.2 (n + a.nsl)
 | .sl e t,xs,n=> [(n,.row true e t xs)]
 |_,_,_=> []
theorem oo.length{w:World}: ∀ {t:CTy} {cs:List Value} {x:E t} {L:List Nat},oo w t cs x L→cs.length=t.size
 | .int _,_,_,_,h=>by simp only [oo]at h;rw [h.1];rfl
 | .bool,_,_,_,h=>by simp only [oo]at h;rw [h.1];rfl
 | .str,_,_,_,h=>by simp only [oo]at h;rw [h.1];rfl
 | .pair a b,_,_,_,h=>by
  simp only [oo]at h
  obtain⟨c1,c2,_,_,rfl,_,h1,h2,_⟩:=h
  rw [w6,h1.length,h2.length];rfl
 | .sl _ _,_,_,_,h=>by simp only [oo]at h;obtain⟨v,ds,rfl,_⟩:=h;rfl
 | .fn,_,_,_,h=>by simp only [oo]at h;obtain⟨⟨v,rfl,_⟩,_⟩:=h;rfl
theorem JF{w:World}: ∀ (t:CTy) (cs:List Value) (x:E t) (L:List Nat) (n:Nat) (ρ:Nm),oo w t cs x L→
  ∃ ρ':Nm,ρ'.mem=ρ.mem∧ρ'.fp=ρ.fp∧(∀ i,i < n∨n + t.nsl≤i→ρ' i=ρ i)∧cs=(qn t x n).map (Cell.conc ρ')∧
   (∀ i e,look? (wB t x n) i=some e→(∃ e0 t0 xs ds,e= .row true e0 t0 xs∧xZ w e0 t0.size (ρ' i) xs.length ds∧iT (fun _=>none) t0 ds xs∧ ∀ b∈fZ (ρ' i),b∈L)∧n≤i∧i < n + t.nsl)∧
   (∀ i j e e' b,look? (wB t x n) i=some e→look? (wB t x n) j=some e'→b∈fZ (ρ' i)→b∈fZ (ρ' j)→i=j)
 | .int k,cs,x,L,n,ρ,h=>⟨ρ,rfl,rfl,fun _ _=>rfl,by simp only [oo]at h;rw [h.1];rfl,fun i e he=>by simp [wB,look?]at he,fun i j e e' b he=>by simp [wB,look?]at he⟩
 | .bool,cs,x,L,n,ρ,h=>⟨ρ,rfl,rfl,fun _ _=>rfl,by simp only [oo]at h;rw [h.1];rfl,fun i e he=>by simp [wB,look?]at he,fun i j e e' b he=>by simp [wB,look?]at he⟩
 | .str,cs,x,L,n,ρ,h=>⟨ρ,rfl,rfl,fun _ _=>rfl,by simp only [oo]at h;rw [h.1];rfl,fun i e he=>by simp [wB,look?]at he,fun i j e e' b he=>by simp [wB,look?]at he⟩
 | .sl e t,cs,xs,L,n,ρ,h=>by
  simp only [oo]at h
  obtain⟨v,ds,hv,hL,hf,ho,hr⟩:=h
  have hs:=qr ho
  refine⟨upd ρ n v,rfl,rfl,fun i hi=> ?_,?_,fun i e' he=> ?_,fun i j e1 e2 b h1 h2 _ _=> ?_⟩
  ·have:Nat.beq i n=false:=by
    cases hb:Nat.beq i n with
    |false=>rfl
    |true=>have:=q8 hb;simp only [CTy.nsl]at hi;omega
   simp only [Nm.of,upd,this,cond_false]
  ·rw [hv];simp [qn,Cell.conc,Nm.of,upd,hs]
  ·simp only [wB]at he
   obtain⟨rfl,rfl⟩:=look?_one he
   refine⟨⟨e,t,xs,ds,rfl,?_,hr,?_⟩,Nat.le_refl _,by simp [CTy.nsl]⟩
   ·rw [gk _ _ hs];exact ho
   ·rw [gk _ _ hs,hL];exact fun _ h=>h
  ·simp only [wB]at h1 h2
   exact(look?_one h1).1.trans (look?_one h2).1.symm
 | .fn,cs,x,L,n,ρ,h=>by
  simp only [oo]at h
  obtain⟨⟨v,hv,hr⟩,_⟩:=h
  refine⟨upd ρ n v,rfl,rfl,fun i hi=> ?_,?_,fun i e' he=>by simp [wB,look?]at he,fun i j e e' b he=>by simp [wB,look?]at he⟩
  ·have:Nat.beq i n=false:=by
    cases hb:Nat.beq i n with
    |false=>rfl
    |true=>have:=q8 hb;simp only [CTy.nsl]at hi;omega
   simp only [Nm.of,upd,this,cond_false]
  ·rw [hv];simp [qn,Cell.conc,Nm.of,upd,hr]
 | .pair a b,cs,p,L,n,ρ,h=>by
  simp only [oo]at h
  obtain⟨c1,c2,L1,L2,e,rfl,h1,h2,h3⟩:=h
  obtain⟨ρ1,m1,f1,k1,e1,r1,d1⟩:=JF a c1 p.1 L1 n ρ h1
  obtain⟨ρ2,m2,f2,k2,e2,r2,d2⟩:=JF b c2 p.2 L2 (n + a.nsl) ρ1 h2
  have hk: ∀ i,i < n + a.nsl→ρ2 i=ρ1 i:=fun i hi=>k2 i (.inl hi)
  have hr: ∀ i e',look? (wB (.pair a b) p n) i=some e'→(∃ e0 t0 xs ds,e'= .row true e0 t0 xs∧xZ w e0 t0.size (ρ2 i) xs.length ds∧iT (fun _=>none) t0 ds xs∧((i < n + a.nsl∧look? (wB a p.1 n) i=some e'∧ ∀ b∈fZ (ρ2 i),b∈L1)∨(n + a.nsl≤i∧look? (wB b p.2 (n + a.nsl)) i=some e'∧ ∀ b∈fZ (ρ2 i),b∈L2)))∧n≤i∧i < n + (CTy.pair a b).nsl:=by
   intro i e' he
   simp only [wB]at he
   rw [look?_append]at he
   cases hl:look? (wB a p.1 n) i with
   |some e0=>
    simp [hl]at he;subst he
    obtain⟨⟨e1,t1,xs,ds,he1,hr,hr2,hr3⟩,Yn,Xw⟩:=r1 i _ hl
    refine⟨⟨e1,t1,xs,ds,he1,by rw [hk i Xw];exact hr,hr2,.inl ⟨Xw,rfl,by rw [hk i Xw];exact hr3⟩⟩,Yn,by simp only [CTy.nsl];omega⟩
   |none=>
    simp [hl]at he
    obtain⟨⟨e1,t1,xs,ds,he1,hr,hr2,hr3⟩,Yn,Xw⟩:=r2 i _ he
    exact⟨⟨e1,t1,xs,ds,he1,hr,hr2,.inr ⟨Yn,he,hr3⟩⟩,by omega,by simp only [CTy.nsl];omega⟩
  refine⟨ρ2,m2.trans m1,f2.trans f1,fun i hi=> ?_,?_,fun i e' he=> ?_,fun i j e1 e2 b he he' hb hb'=> ?_⟩
  ·simp only [CTy.nsl]at hi
   rw [k2 i (by omega),k1 i (by omega)]
  ·rw [e,e1,e2]
   simp only [qn,List.map_append]
   congr 1
   refine(rB (U:=fun i=>Nat.ble n i&&Nat.blt i (n + a.nsl)) (fun i hi=>hk i ?_) (La a p.1 n)).symm
   simp only [w5,Nat.ble_eq,Nat.blt]at hi;omega
  ·obtain⟨⟨e1,t1,xs,ds,he1,hr1,hr2,hr3⟩,Yn,Xw⟩:=hr i e' he
   refine⟨⟨e1,t1,xs,ds,he1,hr1,hr2,fun b hb=> ?_⟩,Yn,Xw⟩
   rcases hr3 with⟨_,_,q⟩ | ⟨_,_,q⟩
   ·exact List.mem_append_left _ (q b hb)
   ·exact w8 _ (q b hb)
  ·obtain⟨⟨_,_,_,_,_,_,_,q1⟩,_⟩:=hr i e1 he
   obtain⟨⟨_,_,_,_,_,_,_,q2⟩,_⟩:=hr j e2 he'
   rcases q1 with⟨u1,v1,w1⟩ | ⟨u1,v1,w1⟩ <;> rcases q2 with⟨u2,v2,w2⟩ | ⟨u2,v2,w2⟩
   ·exact d1 i j e1 e2 b v1 v2 (by rw [← hk i u1];exact hb) (by rw [← hk j u2];exact hb')
   ·exact(h3 b (w1 b hb) (w2 b hb')).elim
   ·exact(h3 b (w2 b hb') (w1 b hb)).elim
   ·exact d2 i j e1 e2 b v1 v2 hb hb'
theorem oo.one{w:World}: ∀ {t:CTy} {cs:List Value} {x:E t} {L:List Nat},oo w t cs x L→ ∀ u∈cs,u.oneCell'=true
 | .int _,_,_,_,h,u,hu=>by simp only [oo]at h;rw [h.1]at hu;simp at hu;subst hu;rfl
 | .bool,_,_,_,h,u,hu=>by simp only [oo]at h;rw [h.1]at hu;simp at hu;subst hu;rfl
 | .str,_,_,_,h,u,hu=>by simp only [oo]at h;rw [h.1]at hu;simp at hu;subst hu;rfl
 | .pair _ _,_,_,_,h,u,hu=>by
  simp only [oo]at h
  obtain⟨c1,c2,_,_,rfl,_,h1,h2,_⟩:=h
  rcases z1.1 hu with hu | hu
  ·exact h1.one u hu
  ·exact h2.one u hu
 | .sl _ _,_,_,_,h,u,hu=>by
  simp only [oo]at h
  obtain⟨v,ds,rfl,_,_,ho,_⟩:=h
  simp at hu;subst hu
  rcases ho.2 with⟨hz,_⟩ | ⟨_,_,_,rfl,_⟩
  ·rcases hz with rfl | ⟨_,rfl⟩ <;> rfl
  ·rfl
 | .fn,_,_,_,h,u,hu=>by
  simp only [oo]at h
  obtain⟨⟨v,rfl,hv⟩,_⟩:=h
  simp at hu;subst hu
  rw [← hv];exact RC _
theorem HI.one{w:World}{ρ:Nm}{t:CTy}{cs:List Value}{xs:List (E t)}{Ls:List (List Nat)}(h:HI w ρ t cs xs Ls none)(hl:cs.length=xs.length * t.size): ∀ u∈cs,u.oneCell'=true:=by
 intro u hu
 obtain⟨j,hj⟩:=List.mem_iff_getElem?.1 hu
 have iM:=(z7.1 hj).1
 have hp:=rE t
 rw [hl]at iM
 have hi:j / t.size < xs.length:=Nat.div_lt_of_lt_mul (by rw [Nat.mul_comm];exact iM)
 refine(h.2.2.1 _ _ _ (fun _ _ h=>by cases h) (List.getElem?_eq_getElem hi) (List.getElem?_eq_getElem (by rw [h.1];exact hi))).one u ?_
 refine List.mem_iff_getElem?.2 ⟨j % t.size,?_⟩
 rw [List.getElem?_take,if_pos (Nat.mod_lt _ hp),List.getElem?_drop,Nat.mul_comm,Nat.div_add_mod]
 exact hj
theorem Sm{w:World}{e e':TypeId}{z n:Nat}{v:Value}{cs cs':List Value}(h:xZ w e z v n cs)(h':xZ w e' z v n cs'):cs=cs':=by
 have nilOf: ∀ {l:List Value},l.length=n * z→n=0→l= []:=fun hl hn=>List.length_eq_zero_iff.1 (by rw [hl,hn,Nat.zero_mul])
 rcases h.2 with⟨_,hn⟩ | ⟨g,cap,cur,hv,h0,hg,DR,MG,Ba,MH⟩
 ·rw [nilOf h.1 hn,nilOf h'.1 hn]
 ·rcases h'.2 with⟨_,hn⟩ | ⟨g',cap',cur',hv',h0',hg',hle',hcm',hsz',htk'⟩
  ·rw [nilOf h.1 hn,nilOf h'.1 hn]
  ·rw [hv]at hv'
   simp only [Value.slice.injEq,q9,Addr.mk.injEq]at hv'
   obtain⟨⟨rfl,_⟩,_,_⟩:=hv'
   rw [hg]at hg';cases hg'
   rw [← MH,← htk']
theorem LN{α:Type}: ∀ (l r:List (List α)),ol (l++r)=ol l++ol r
 | [],r=>rfl
 |a::l,r=>by simp only [List.cons_append,ol,LN l r,List.append_assoc]
theorem HI.append{w:World}{ρ:Nm}{t:CTy}{cs ds:List Value}{xs ys:List (E t)}{Ls Ms:List (List Nat)}(h:HI w ρ t cs xs Ls none)(h':HI w ρ t ds ys Ms none)(hl:cs.length=xs.length * t.size)
  (hd: ∀ b∈ol Ls,b∉ol Ms):HI w ρ t (cs++ds) (xs++ys) (Ls++Ms) none:=by
 refine⟨by simp [h.1,h'.1],fun k hc hh=>(by cases hh),fun i x l _ hx hll=> ?_,fun i j l1 l2 k hi hj hk hk'=> ?_⟩
 ·by_cases hi:i < xs.length
  ·rw [List.getElem?_append_left hi]at hx
   rw [List.getElem?_append_left (by rw [h.1];exact hi)]at hll
   have DR:=qO (z:=t.size) hi
   rw [List.drop_append_of_le_length (by rw [hl];omega),List.take_append_of_le_length (by rw [List.length_drop,hl];omega)]
   exact h.2.2.1 i x l (fun _ _ h=>by cases h) hx hll
  ·rw [List.getElem?_append_right (by omega)]at hx
   rw [List.getElem?_append_right (by rw [h.1];omega),h.1]at hll
   have hm:i * t.size=xs.length * t.size + (i - xs.length) * t.size:=by rw [← Nat.add_mul];congr 1;omega
   rw [hm,← hl,List.drop_append,List.drop_eq_nil_of_le (by omega),List.nil_append,Nat.add_sub_cancel_left]
   exact h'.2.2.1 _ x l (fun _ _ h=>by cases h) hx hll
 ·have side: ∀ (i:Nat) l,(Ls++Ms)[i]? =some l→(i < Ls.length∧Ls[i]? =some l)∨(Ls.length≤i∧Ms[i - Ls.length]? =some l):=by
   intro i l hi
   by_cases iM:i < Ls.length
   ·rw [List.getElem?_append_left iM]at hi;exact .inl ⟨iM,hi⟩
   ·rw [List.getElem?_append_right (by omega)]at hi;exact .inr ⟨by omega,hi⟩
  rcases side i l1 hi with⟨a1,a2⟩ | ⟨a1,a2⟩ <;> rcases side j l2 hj with⟨b1,b2⟩ | ⟨b1,b2⟩
  ·exact h.2.2.2 i j l1 l2 k a2 b2 hk hk'
  ·exact(hd k (mb.2 ⟨_,_,a2,hk⟩) (mb.2 ⟨_,_,b2,hk'⟩)).elim
  ·exact(hd k (mb.2 ⟨_,_,b2,hk'⟩) (mb.2 ⟨_,_,a2,hk⟩)).elim
  ·have:=h'.2.2.2 _ _ l1 l2 k a2 b2 hk hk';omega
theorem HI.one1{w:World}{ρ:Nm}{t:CTy}{cs:List Value}{x:E t}{L:List Nat}(h:oo w t cs x L):HI w ρ t cs [x] [L] none:=by
 refine⟨rfl,fun k hc hh=>(by cases hh),fun i y l _ hy hl=> ?_,fun i j l l' k hi hj _ _=> ?_⟩
 ·cases i with
  |zero=>simp at hy hl;subst hy hl;rw [Nat.zero_mul,List.drop_zero,← h.length,List.take_length];exact h
  |succ i=>simp at hy
 ·have h1:=(z7.1 hi).1
  have h2:=(z7.1 hj).1
  simp at h1 h2;omega
theorem HI.nil(w:World)(ρ:Nm)(t:CTy):HI w ρ t [] [] [] none:=⟨rfl,fun k hc hh=>(by cases hh),fun i y l _ hy hl=>(by simp at hy),fun i j l l' k hi hj _ _=>(by simp at hi)⟩
theorem Ui: ∀ (n:Nat),ol (z8 n ([]:List Nat))= []
 |0=>rfl
 |n + 1=>by rw [List.replicate_succ];simp only [ol,Ui n,List.append_nil]
section
variable{B:Base}{ρ:Nm}{ent:Nat→Option Entry}{used:Nat→Bool}{w:World}
theorem Xm(h:Hp B ρ ent used w){t:CTy}{cs:List Cell}{x:E t}{ids:List Nat}(hc:wD (fun _=>none) t cs=some (x,ids))(w':World):oo w' t (cs.map (Cell.conc ρ)) x []:=by
 have h0:Hp B ρ (fun _=>none) used w:=⟨fun id e he=>(by cases he),fun id id' e e' b he=>(by cases he),h.hf⟩
 have hids:ids= []:=by
  cases ids with
  |nil=>rfl
  |cons i r=>obtain⟨_,_,_,hh⟩:=Jv hc i (by simp);cases hh
 subst hids
 obtain⟨L,d1,d2,_⟩:=Fk h0 t cs x [] hc List.nodup_nil
 have hL:L= []:=by
  cases L with
  |nil=>rfl
  |cons b r=>obtain⟨i,hi,_⟩:=d2 b (by simp);cases hi
 subst hL
 exact d1.keep fun b hb=>(by cases hb)
theorem Hp.treeNew(h:Hp B ρ ent used w){nid:Nat}(It:used nid=false){e:TypeId}{t:CTy}{xs:List (E t)}{Ls:List (List Nat)}{G:List Nat}{cs:List Value}{w':World}{v:Value}(hg:w.grownBy w' none)
  (nQ:xZ w' e t.size v xs.length cs) (oB:HI w ρ t cs xs Ls none) (hG: ∀ g∈G,used g=true) (hb: ∀ b∈fZ v,w.heap.size≤b) (hL: ∀ b∈ol Ls,∃ g∈G,∃ e0,ent g=some e0∧b∈e0.ob ρ g):
  ∃ ρ':Nm,ρ' nid=v∧Ext B used ρ ρ'∧Hp B ρ' (be ent ((nid,.tree e t xs none)::Hx G)) (bq used [nid]) w':=by
 have Cc: ∀ i,used i=true→upd ρ nid v i=ρ i:=De It ρ v
 let ρ':Nm:=⟨(upd ρ nid v).nm,ρ.mem,fun i=>bif Nat.beq i nid then ol Ls else ρ.fp i⟩
 have hv:ρ' nid=v:=gk ρ nid (qr nQ)
 have iM: ∀ b∈ol Ls,b < w.heap.size:=fun b hb=>oB.blk b hb
 have hc:=Chg.grown hg
 have:=h.toTree (ρ':=ρ') (w':=w') (G:=G) (id:=nid) (new:= [nid]) (e:=e) (t:=t) (xs:=xs) (ho:=none) (cs:=cs) (Ls:=Ls)
  hc Cc rfl (fun i hi'=> ?_) hG (by simp [bq,memN]) trivial (fun k hk=>by cases hk) (fun b hb'=> ?_) (by rw [hv];exact nQ)
  (oB.keep (fun b hb'=>hc.block b (iM b hb') (fun h=>by cases h)) (fun _ _ h=>by cases h))
  (by show (bif Nat.beq nid nid then _ else _)=_;simp) (fun b h1 h2=> ?_)
 ·exact⟨ρ',hv,this.1,this.2⟩
 ·show (bif Nat.beq i nid then _ else ρ.fp i)=ρ.fp i
  cases hq:Nat.beq i nid with
  |false=>rfl
  |true=>exact(hi' (q8 hq)).elim
 ·rw [hv]at hb'
  rcases z1.1 hb' with h1 | h1
  ·exact .inl (hb b h1)
  ·obtain⟨g,hg,r⟩:=hL b h1;exact .inr ⟨g,.inr hg,r⟩
 ·rw [hv]at h1
  have:=hb b h1
  have:=iM b h2
  omega
theorem UX{used:Nat→Bool}{l:List Nat}{i:Nat}(h:memN l i=true):bq used l i=true:=by simp [bq,h]
theorem Hp.treeOpen(h:Hp B ρ ent used w){id:Nat}{e:TypeId}{t:CTy}{xs:List (E t)}(he:ent id=some (.tree e t xs none)){k:Nat}{x:E t}(hx:xs[k]? =some x){nid:Nat}(It: ∀ i∈aK nid t.nsl,used i=false):
  ∃ ρ':Nm,Ext B used ρ ρ'∧ρ'.mem=ρ.mem∧Hp B ρ' (be ent ((id,.tree e t xs (some (k,qn t x nid)))::wB t x nid)) (bq used (aK nid t.nsl)) w:=by
 obtain⟨⟨cs,Ls,h1,⟨t1,t2,t3,t4⟩,h3,h4,h5⟩,iU,_⟩:=h.he _ _ he
 have hk:k < xs.length:=(z7.1 hx).1
 obtain⟨l,hl⟩: ∃ l,Ls[k]? =some l:=⟨_,List.getElem?_eq_getElem (by omega)⟩
 have hd:=t3 k x l (fun _ _ h=>by cases h) hx hl
 obtain⟨ρ1,m1,f1,k1,e1,r1,d1⟩:=JF t _ x l nid ρ hd
 have CG: ∀ i,i∈aK nid t.nsl↔nid≤i∧i < nid + t.nsl:=fun i=>by
  rw [← mU]
  constructor
  ·intro hi
   have: ∀ (l:List Nat),i∈l→memN l i=true:=by
    intro l
    induction l with
    |nil=>intro h;cases h
    |cons a r ih=>
     intro h
     simp only [memN]
     cases hb:Nat.beq a i with
     |true=>rfl
     |false=>
      rcases List.mem_cons.1 h with rfl | h
      ·simp at hb
      ·exact ih h
   exact this _ hi
  ·intro hi
   have: ∀ (l:List Nat),memN l i=true→i∈l:=by
    intro l
    induction l with
    |nil=>intro h;cases h
    |cons a r ih=>
     intro h
     simp only [memN]at h
     cases hb:Nat.beq a i with
     |true=>have:=q8 hb;simp [this]
     |false=>rw [hb]at h;exact List.mem_cons_of_mem _ (ih h)
   exact this _ hi
 have Cc: ∀ i,used i=true→ρ1 i=ρ i:=fun i hi=>k1 i (by
  apply Classical.byContradiction
  intro hn
  have:i∈aK nid t.nsl:=(CG i).2 (by omega)
  rw [It i this]at hi;cases hi)
 let ρ':Nm:=⟨ρ1.nm,ρ1.mem,fun i=>bif Nat.beq i id then ol (Ls.set k [])else ρ.fp i⟩
 have hρ: ∀ i,ρ' i=ρ1 i:=fun _=>rfl
 have hcon: ∀ c:Cell,c.conc ρ'=c.conc ρ1:=fun c=>Cell.conc_congr (U:=fun _=>true) (fun _ _=>rfl) (by cases c <;> simp [Cell.inU])
 have Pm: ∀ b,b∈ol (Ls.set k [])→b∈ol Ls:=by
  intro b hb
  obtain⟨j,l',hj,hb'⟩:=mb.1 hb
  rcases Lg hj with⟨_,rfl⟩ | ⟨_,hj⟩
  ·cases hb'
  ·exact mb.2 ⟨j,l',hj,hb'⟩
 have hout: ∀ b∈l,b∉ol (Ls.set k []):=by
  intro b hb hb2
  obtain⟨j,l',hj,hb'⟩:=mb.1 hb2
  rcases Lg hj with⟨_,rfl⟩ | ⟨Hy,hj⟩
  ·cases hb'
  ·exact Hy (t4 k j l l' b hl hj hb hb').symm
 have hfid:ρ'.fp id=ol (Ls.set k []):=by show (bif Nat.beq id id then _ else _)=_;simp
 have hlk: ∀ i x',look? ((id,Entry.tree e t xs (some (k,qn t x nid)))::wB t x nid) i=some x'→(i=id∧x'= .tree e t xs (some (k,qn t x nid)))∨(i≠id∧look? (wB t x nid) i=some x'):=by
  intro i x' hl
  simp only [look?]at hl
  cases hq:Nat.beq id i with
  |true=>simp [hq]at hl;exact .inl ⟨(q8 hq).symm,hl.symm⟩
  |false=>
   simp only [hq,cond_false]at hl
   exact .inr ⟨fun he=>by subst he;simp at hq,hl⟩
 have Dk: ∀ b,b∈fZ (ρ id)++ρ.fp id→Was ent ρ ((id,Entry.tree e t xs (some (k,qn t x nid)))::wB t x nid) b:=fun b hb=>⟨id,_,_,he,hb,look?_same _ _ _⟩
 have hfpl: ∀ b∈l,b∈ρ.fp id:=fun b hb=>by rw [h3];exact mb.2 ⟨k,l,hl,hb⟩
 have kn:=h.chg (ρ':=ρ') (es:=(id,.tree e t xs (some (k,qn t x nid)))::wB t x nid) (new:=aK nid t.nsl) (Chg.refl w (fun _=>False)) (fun i hi=>(hρ i).trans (Cc i hi)) (fun b o hb=>by show ρ1.mem b=some o;rw [m1];exact hb) (fun _ hx=>hx.elim)
  (fun b o hb=> .inl (by rw [← m1];exact hb)) (fun i x' hl'=> ?_) (fun i x' b hl' hb=> ?_) (fun i j x1 x2 b hl1 hl2 hb1 hb2=> ?_) (fun i hi hl'=> ?_)
 ·exact⟨ρ',kn.1,m1,kn.2⟩
 ·rcases hlk i x' hl' with⟨rfl,rfl⟩ | ⟨Hy,hl2⟩
  ·refine⟨?_,gm _ iU,fun c hc=> ?_⟩
   ·refine⟨cs,Ls.set k [],?_,⟨by simp [t1],fun j hc hj=> ?_,fun j y l' hj hy hl2=> ?_,fun a b l1 l2 q ha hb hq1 hq2=> ?_⟩,hfid,fun b hb hb2=> ?_,fun b hb=> ?_⟩
    ·rw [hρ,Cc i iU];exact h1
    ·cases hj
     refine⟨hk,by simp [t1,hk],?_⟩
     rw [e1]
     exact(List.map_congr_left fun c _=>hcon c).symm
    ·have Hy:k≠j:=fun hkj=>hj k _ rfl hkj.symm
     rw [List.getElem?_set_ne Hy]at hl2
     exact t3 j y l' (fun _ _ h=>by cases h) hy hl2
    ·have hg: ∀ (a:Nat) l1,(Ls.set k [])[a]? =some l1→q∈l1→Ls[a]? =some l1:=by
      intro a l1 ha hq
      rcases Lg ha with⟨_,rfl⟩ | ⟨_,ha⟩
      ·cases hq
      ·exact ha
     exact t4 a b l1 l2 q (hg a l1 ha hq1) (hg b l2 hb hq2) hq1 hq2
    ·rw [hρ,Cc i iU]at hb
     rw [hfid]at hb2
     exact h4 b hb (by rw [h3];exact Pm b hb2)
    ·rw [hρ,Cc i iU,hfid]at hb
     show B.mem b=none∧ρ1.mem b=none
     rw [m1]
     refine h5 b ?_
     rcases z1.1 hb with hb | hb
     ·exact List.mem_append_left _ hb
     ·exact w8 _ (by rw [h3];exact Pm b hb)
   ·refine Cell.inU_mono (fun j hj=> ?_) (La t x nid c hc)
    refine UX (mU.2 ?_)
    simp only [w5,Nat.ble_eq,Nat.blt]at hj
    omega
  ·obtain⟨⟨e0,t0,ys,ds,rfl,q1,q2,q3⟩,Yn,Xw⟩:=r1 i _ hl2
   refine⟨⟨ds,q1,iT.mono (fun _ _ h=>by cases h) q2,fun b hb=> ?_⟩,UX (mU.2 ⟨Yn,Xw⟩),trivial⟩
   show B.mem b=none∧ρ1.mem b=none
   rw [m1]
   exact h5 b (w8 _ (hfpl b (q3 b hb)))
 ·rcases hlk i x' hl' with⟨rfl,rfl⟩ | ⟨Hy,hl2⟩
  ·simp only [Entry.ob]at hb
   rw [hρ,Cc i iU,hfid]at hb
   refine .inr (Dk b ?_)
   rcases z1.1 hb with hb | hb
   ·exact List.mem_append_left _ hb
   ·exact w8 _ (by rw [h3];exact Pm b hb)
  ·obtain⟨⟨e0,t0,ys,ds,rfl,q1,q2,q3⟩,_⟩:=r1 i _ hl2
   exact .inr (Dk b (w8 _ (hfpl b (q3 b hb))))
 ·have bB: ∀ j x2,look? (wB t x nid) j=some x2→b∈x2.ob ρ' j→b∈fZ (ρ' id)++ρ'.fp id→False:=by
   intro j x2 hl2 hb2 hb1
   obtain⟨⟨e0,t0,ys,ds,rfl,q1,q2,q3⟩,_⟩:=r1 j _ hl2
   have MF:=q3 b hb2
   rw [hρ,Cc id iU,hfid]at hb1
   rcases z1.1 hb1 with hb1 | hb1
   ·exact h4 b hb1 (hfpl b MF)
   ·exact hout b MF hb1
  rcases hlk i x1 hl1 with⟨rfl,rfl⟩ | ⟨Hy,hl1'⟩
  ·rcases hlk j x2 hl2 with⟨rfl,rfl⟩ | ⟨Hy,hl2'⟩
   ·rfl
   ·exact(bB j x2 hl2' hb2 hb1).elim
  ·rcases hlk j x2 hl2 with⟨rfl,rfl⟩ | ⟨Hy,hl2'⟩
   ·exact(bB i x1 hl1' hb1 hb2).elim
   ·obtain⟨⟨_,_,_,_,rfl,_⟩,_⟩:=r1 i _ hl1'
    obtain⟨⟨_,_,_,_,rfl,_⟩,_⟩:=r1 j _ hl2'
    exact d1 i j _ _ b hl1' hl2' hb1 hb2
 ·show (bif Nat.beq i id then _ else ρ.fp i)=ρ.fp i
  cases hq:Nat.beq i id with
  |false=>rfl
  |true=>
   have:=q8 hq;subst this
   rw [look?_same]at hl';cases hl'
theorem Hp.treeAppend(h:Hp B ρ ent used w){id jd nid:Nat}{e e2:TypeId}{t:CTy}{xs ys:List (E t)}(he:ent id=some (.tree e t xs none))(he2:ent jd=some (.tree e2 t ys none))(Hy:id≠jd)(It:used nid=false)
  {w':World} {v':Value} {cs ds:List Value} (hg:Chg w w' (fun k=>k∈fZ (ρ id))) (DQ:xZ w e t.size (ρ id) xs.length cs) (hds:xZ w e2 t.size (ρ jd) ys.length ds) (nQ:xZ w' e t.size v' (xs++ys).length (cs++ds)) (hb: ∀ b∈fZ v',w.heap.size≤b∨b∈fZ (ρ id)):
  ∃ ρ':Nm,ρ' nid=v'∧Ext B used ρ ρ'∧Hp B ρ' (be ent ((nid,.tree e t (xs++ys) none)::Hx [id,jd])) (bq used [nid]) w':=by
 obtain⟨⟨cs1,Ls,p1,p2,p3,p4,p5⟩,iU,_⟩:=h.he _ _ he
 obtain⟨⟨ds1,Ms,q1,q2,q3,q4,q5⟩,hjd,_⟩:=h.he _ _ he2
 obtain rfl:cs1=cs:=Sm p1 DQ
 obtain rfl:ds1=ds:=Sm q1 hds
 have hi: ∀ b,b∈fZ (ρ id)++ρ.fp id→b∈fZ (ρ jd)++ρ.fp jd→False:=fun b h1 h2=>Hy (h.hi _ _ _ _ b he he2 h1 h2)
 have Cc: ∀ i,used i=true→upd ρ nid v' i=ρ i:=De It ρ v'
 let ρ':Nm:=⟨(upd ρ nid v').nm,ρ.mem,fun i=>bif Nat.beq i nid then ol (Ls++Ms)else ρ.fp i⟩
 have hv:ρ' nid=v':=gk ρ nid (qr nQ)
 have Gb: ∀ b,b∈ol Ls∨b∈ol Ms→w'.heap[b]? =w.heap[b]? ∧b < w.heap.size∧b∉fZ (ρ id):=by
  intro b hb'
  have iM:b < w.heap.size:=hb'.elim (p2.blk b) (q2.blk b)
  have hnb:b∉fZ (ρ id):=fun hm=>hb'.elim (fun h1=>p4 b hm (by rw [p3];exact h1)) fun h1=>hi b (List.mem_append_left _ hm) (w8 _ (by rw [q3];exact h1))
  exact⟨hg.block b iM hnb,iM,hnb⟩
 have:=h.toTree (ρ':=ρ') (w':=w') (G:= [id,jd]) (id:=nid) (new:= [nid]) (e:=e) (t:=t) (xs:=xs++ys) (ho:=none) (cs:=cs1++ds1) (Ls:=Ls++Ms)
  hg Cc rfl (fun i hi'=> ?_) (fun g hg'=> ?_) (by simp [bq,memN]) trivial (fun k hk=>⟨id,.inr (by simp),_,he,List.mem_append_left _ hk⟩) (fun b hb'=> ?_) (by rw [hv];exact nQ)
  ((p2.keep (ρ':=ρ') (fun b hb'=>(Gb b (.inl hb')).1) (fun _ _ h=>by cases h)).append (q2.keep (fun b hb'=>(Gb b (.inr hb')).1) (fun _ _ h=>by cases h)) p1.1 fun b h1 h2=>hi b (w8 _ (by rw [p3];exact h1)) (w8 _ (by rw [q3];exact h2)))
  (by show (bif Nat.beq nid nid then _ else _)=_;simp) (fun b h1 h2=> ?_)
 ·exact⟨ρ',hv,this.1,this.2⟩
 ·show (bif Nat.beq i nid then _ else ρ.fp i)=ρ.fp i
  cases hq:Nat.beq i nid with
  |false=>rfl
  |true=>exact(hi' (q8 hq)).elim
 ·simp only [List.mem_cons,List.not_mem_nil,or_false]at hg'
  rcases hg' with rfl | rfl
  ·exact iU
  ·exact hjd
 ·rw [hv]at hb'
  rcases z1.1 hb' with h1 | h1
  ·rcases hb b h1 with h2 | h2
   ·exact .inl h2
   ·exact .inr ⟨id,.inr (by simp),_,he,List.mem_append_left _ h2⟩
  ·rw [LN]at h1
   rcases z1.1 h1 with h1 | h1
   ·exact .inr ⟨id,.inr (by simp),_,he,w8 _ (by rw [p3];exact h1)⟩
   ·exact .inr ⟨jd,.inr (by simp),_,he2,w8 _ (by rw [q3];exact h1)⟩
 ·rw [hv]at h1
  rw [LN]at h2
  obtain⟨_,k2,k3⟩:=Gb b (z1.1 h2)
  rcases hb b h1 with h3 | h3
  ·omega
  ·exact k3 h3
theorem Hp.treeName(h:Hp B ρ ent used w){id nid:Nat}{e:TypeId}{t:CTy}{xs:List (E t)}(he:ent id=some (.tree e t xs none))(It:used nid=false):
  ∃ ρ':Nm,ρ' nid=ρ id∧ρ' id=ρ id∧Ext B used ρ ρ'∧Hp B ρ' (be ent ((nid,.tree e t xs none)::Hx [id])) (bq used [nid]) w:=by
 obtain⟨⟨cs,Ls,p1,p2,p3,p4,p5⟩,iU,_⟩:=h.he _ _ he
 have Cc: ∀ i,used i=true→upd ρ nid (ρ id) i=ρ i:=De It ρ (ρ id)
 let ρ':Nm:=⟨(upd ρ nid (ρ id)).nm,ρ.mem,fun i=>bif Nat.beq i nid then ol Ls else ρ.fp i⟩
 have hv:ρ' nid=ρ id:=gk ρ nid (CV _)
 have:=h.toTree (ρ':=ρ') (w':=w) (X:=fun _=>False) (G:= [id]) (id:=nid) (new:= [nid]) (e:=e) (t:=t) (xs:=xs) (ho:=none) (cs:=cs) (Ls:=Ls)
  (Chg.refl w _) Cc rfl (fun i hi'=> ?_) (fun g hg'=> ?_) (by simp [bq,memN]) trivial (fun k hk=>hk.elim) (fun b hb'=> ?_) (by rw [hv];exact p1)
  (p2.keep (fun _ _=>rfl) (fun _ _ h=>by cases h)) (by show (bif Nat.beq nid nid then _ else _)=_;simp) (fun b h1 h2=> ?_)
 ·exact⟨ρ',hv,Cc id iU,this.1,this.2⟩
 ·show (bif Nat.beq i nid then _ else ρ.fp i)=ρ.fp i
  cases hq:Nat.beq i nid with
  |false=>rfl
  |true=>exact(hi' (q8 hq)).elim
 ·simp only [List.mem_cons,List.not_mem_nil,or_false]at hg'
  subst hg';exact iU
 ·rw [hv]at hb'
  exact .inr ⟨id,.inr (by simp),_,he,by simp only [Entry.ob,p3];exact hb'⟩
 ·rw [hv]at h1
  exact p4 b h1 (by rw [p3];exact h2)
theorem Hp.treeFreeze(h:Hp B ρ ent used w){id:Nat}{e:TypeId}{t:CTy}{xs:List (E t)}(he:ent id=some (.tree e t xs none)):
  ∃ ρ':Nm,ρ'.nm=ρ.nm∧ρ'.fp=ρ.fp∧Ext B used ρ ρ'∧(∀ b,(∃ o,ρ'.mem b=some o)→(∃ o,ρ.mem b=some o)∨b∈(Entry.tree e t xs none).ob ρ id)∧(∀ b∈(Entry.tree e t xs none).ob ρ id,∃ o,ρ'.mem b=some o)∧Hp B ρ' (be ent [(id,.row false e t xs)]) used w:=by
 obtain⟨⟨cs,Ls,p1,p2,p3,p4,p5⟩,iU,_⟩:=h.he _ _ he
 have TF:(Entry.tree e t xs none).ob ρ id=fZ (ρ id)++ρ.fp id:=rfl
 have Dk: ∀ b∈fZ (ρ id)++ρ.fp id,Was ent ρ [(id,.row false e t xs)] b:=fun b hb=>⟨id,_,_,he,hb,look?_same _ _ _⟩
 have iM: ∀ b∈fZ (ρ id)++ρ.fp id,b < w.heap.size:=fun b hb=>(Entry.ob_lt (h.he _ _ he).1 hb).1
 let ρ':Nm:=⟨ρ.nm,fun b=>if b∈fZ (ρ id)++ρ.fp id then w.heap[b]? else ρ.mem b,ρ.fp⟩
 have hold: ∀ b o,ρ.mem b=some o→ρ'.mem b=some o:=by
  intro b o hb
  show (if b∈fZ (ρ id)++ρ.fp id then w.heap[b]? else ρ.mem b)=some o
  split
  ·exact h.hf.dat b o hb
  ·exact hb
 have uL: ∀ b∈fZ (ρ id)++ρ.fp id,ρ'.mem b=w.heap[b]? :=fun b hb=>by
  show (if b∈fZ (ρ id)++ρ.fp id then w.heap[b]? else ρ.mem b)=_
  rw [if_pos hb]
 have drep: ∀ (t:CTy) (cs:List Value) (x:E t) (L:List Nat),oo w t cs x L→(∀ b∈L,b∈fZ (ρ id)++ρ.fp id)→Rep ρ'.mem t cs x:=by
  intro t
  induction t with
  |int k=>intro cs x L hd _;simp only [oo]at hd;simp only [Rep];exact hd.1
  |bool=>intro cs x L hd _;simp only [oo]at hd;simp only [Rep];exact hd.1
  |str=>intro cs x L hd _;simp only [oo]at hd;simp only [Rep];exact hd.1
  |fn=>intro cs x L hd _;simp only [oo]at hd;simp only [Rep];exact hd.1
  |pair a b iha ihb=>
   intro cs x L hd hL
   simp only [oo]at hd
   obtain⟨c1,c2,L1,L2,e1,rfl,h1,h2,_⟩:=hd
   simp only [Rep]
   exact⟨c1,c2,e1,iha _ _ _ h1 fun b hb=>hL b (List.mem_append_left _ hb),ihb _ _ _ h2 fun b hb=>hL b (w8 _ hb)⟩
  |sl e' t' _=>
   intro cs xs L hd hL
   simp only [oo]at hd
   obtain⟨v,ds,rfl,rfl,hf,ho,hr⟩:=hd
   simp only [Rep]
   refine⟨v,rfl,?_⟩
   rcases ho.2 with⟨hz,hn0⟩ | ⟨g,cap,cur,hv,h0,hg,DR,MG,Ba,MH⟩
   ·exact .inl ⟨hz,List.length_eq_zero_iff.1 hn0⟩
   ·refine .inr ⟨g,0,cap,cur,e',(0,0),hv,DR,MG,?_,fun j x hx=> ?_⟩
    ·rw [uL g (hL g (by rw [hv,pO h0];simp))];exact hg
    ·have:=Rep.mono (H':=ρ'.mem) (fun _ _ h=>by cases h) _ _ _ (hr.2 j x hx)
     rw [← MH]at this
     have iM:=qO (z:=t'.size) (z7.1 hx).1
     rw [List.drop_take,List.take_take]at this
     rw [Nat.zero_add]
     rwa [Nat.min_eq_left (by omega)]at this
 have kn:=h.chg (ρ':=ρ') (es:= [(id,.row false e t xs)]) (new:= []) (Chg.refl w (fun _=>False)) (fun _ _=>rfl) hold (fun _ hx=>hx.elim) (fun b o hb=> ?_) (fun i x hl=> ?_) (fun i x b hl hb'=> ?_) (fun i i' x x' b hl hl' hb1 hb2=> ?_)
 ·refine⟨ρ',rfl,rfl,kn.1,fun b ⟨o,hb⟩=> ?_,fun b hb=> ?_,kn.2⟩
  ·have hb:(if b∈fZ (ρ id)++ρ.fp id then w.heap[b]? else ρ.mem b)=some o:=hb
   split at hb
   ·rename_i hm;exact .inr hm
   ·exact .inl ⟨o,hb⟩
  ·rw [uL b hb];exact⟨_,Array.getElem?_eq_getElem (iM b hb)⟩
 ·have hb:(if b∈fZ (ρ id)++ρ.fp id then w.heap[b]? else ρ.mem b)=some o:=hb
  split at hb
  ·rename_i hm;exact .inr ⟨hb,Entry.ob_unf (h.he _ _ he).1 hm hb,.inr (Dk b hm)⟩
  ·exact .inl hb
 ·obtain⟨rfl,rfl⟩:=look?_one hl
  refine⟨?_,iU,trivial⟩
  show BQ ρ'.mem t (ρ i) xs
  rcases p1.2 with⟨hv,hn0⟩ | ⟨g,cap,cur,hv,h0,hg,DR,MG,Ba,MH⟩
  ·exact .inl ⟨hv,List.length_eq_zero_iff.1 hn0⟩
  ·refine .inr ⟨g,0,cap,cur,e,(0,0),hv,DR,MG,?_,fun j x hx=> ?_⟩
   ·rw [uL g (List.mem_append_left _ (by rw [hv,pO h0];simp))];exact hg
   ·have hj:j < xs.length:=(z7.1 hx).1
    obtain⟨l,hll⟩: ∃ l,Ls[j]? =some l:=⟨_,List.getElem?_eq_getElem (by rw [p2.1];exact hj)⟩
    have:=drep _ _ _ _ (p2.2.2.1 j x l (fun _ _ h=>by cases h) hx hll) (fun b hb=>w8 _ (by rw [p3];exact mb.2 ⟨j,l,hll,hb⟩))
    rw [← MH]at this
    have iM:=qO (z:=t.size) hj
    rw [List.drop_take,List.take_take]at this
    rw [Nat.zero_add]
    rwa [Nat.min_eq_left (by omega)]at this
 ·obtain⟨rfl,rfl⟩:=look?_one hl
  cases hb'
 ·exact(look?_one hl).1.trans (look?_one hl').1.symm
theorem Hp.treeClose(h:Hp B ρ ent used w){id:Nat}{e:TypeId}{t:CTy}{xs:List (E t)}{k:Nat}{hc:List Cell}(he:ent id=some (.tree e t xs (some (k,hc)))){y:E t}{ids:List Nat}(Kg:wD ent t hc=some (y,ids))(hd:ids.Nodup):
  ∃ ρ':Nm,Ext B used ρ ρ'∧Hp B ρ' (be ent ((id,.tree e t (xs.set k y) none)::Hx ids)) used w:=by
 obtain⟨⟨cs,Ls,h1,⟨t1,t2,t3,t4⟩,h3,h4,h5⟩,iU,_⟩:=h.he _ _ he
 obtain⟨hk,hLk,WX⟩:=t2 k hc rfl
 obtain⟨L,d1,d2,d3⟩:=Fk h t hc y ids Kg hd
 have hidn:id∉ids:=by
  intro hm
  obtain⟨_,_,_,hr⟩:=Jv Kg id hm
  rw [he]at hr;cases hr
 have hsep: ∀ b∈L,b∉fZ (ρ id)++ρ.fp id:=by
  intro b hb hb2
  obtain⟨i,hi,e0,he0,hb0⟩:=d2 b hb
  have:=h.hi _ _ _ _ b he0 he hb0 hb2
  subst this;exact hidn hi
 let ρ':Nm:=⟨ρ.nm,ρ.mem,fun i=>bif Nat.beq i id then ol (Ls.set k L)else ρ.fp i⟩
 have hcon: ∀ c:Cell,c.conc ρ'=c.conc ρ:=fun c=>Cell.conc_congr (U:=fun _=>true) (fun _ _=>rfl) (by cases c <;> simp [Cell.inU])
 have CG: ∀ b,b∈ol (Ls.set k L)→b∈L∨b∈ol Ls:=by
  intro b hb
  obtain⟨j,l',hj,hb'⟩:=mb.1 hb
  rcases Lg hj with⟨_,rfl⟩ | ⟨_,hj⟩
  ·exact .inl hb'
  ·exact .inr (mb.2 ⟨j,l',hj,hb'⟩)
 have hgl: ∀ (a:Nat) l1,(Ls.set k L)[a]? =some l1→(a=k∧l1=L)∨(a≠k∧Ls[a]? =some l1):=by
  exact fun a l1 ha=>Lg ha
 have:=h.toTree (ρ':=ρ') (w':=w) (X:=fun _=>False) (G:=ids) (id:=id) (new:= []) (e:=e) (t:=t) (xs:=xs.set k y) (ho:=none) (cs:=cs) (Ls:=Ls.set k L)
  (Chg.refl w _) (fun _ _=>rfl) rfl (fun i hi=> ?_) (fun g hg=> ?_) iU trivial (fun _ hx=>hx.elim) (fun b hb=> ?_) (by rw [j9];exact h1) ⟨by simp [t1],fun j hc' hj=>(by cases hj),fun j y' l' _ hy hl2=> ?_,fun a b l1 l2 q ha hb hq1 hq2=> ?_⟩
  (by show (bif Nat.beq id id then _ else _)=_;simp) (fun b hb hb2=> ?_)
 ·exact⟨ρ',this.1,this.2⟩
 ·show (bif Nat.beq i id then _ else ρ.fp i)=ρ.fp i
  cases hq:Nat.beq i id with
  |false=>rfl
  |true=>exact(hi (q8 hq)).elim
 ·obtain⟨e0,he0⟩:=d3 g hg
  exact(h.he g e0 he0).2.1
 ·right
  rcases z1.1 hb with hb | hb
  ·exact⟨id,.inl rfl,_,he,List.mem_append_left _ hb⟩
  ·rcases CG b hb with hb | hb
   ·obtain⟨i,hi,e0,he0,hb0⟩:=d2 b hb
    exact⟨i,.inr hi,e0,he0,hb0⟩
   ·exact⟨id,.inl rfl,_,he,w8 _ (by rw [h3];exact hb)⟩
 ·rcases hgl j l' hl2 with⟨rfl,rfl⟩ | ⟨Hy,hl3⟩
  ·rw [List.getElem?_set_self hk]at hy;cases hy
   rw [WX];exact d1
  ·rw [List.getElem?_set_ne (fun h=>Hy h.symm)]at hy
   exact t3 j y' l' (fun a b hab=>by cases hab;exact Hy) hy hl3
 ·rcases hgl a l1 ha with⟨rfl,rfl⟩ | ⟨Hy,ha'⟩
  ·rcases hgl b l2 hb with⟨rfl,rfl⟩ | ⟨hne2,hb'⟩
   ·rfl
   ·exact(hsep q hq1 (w8 _ (by rw [h3];exact mb.2 ⟨b,l2,hb',hq2⟩))).elim
  ·rcases hgl b l2 hb with⟨rfl,rfl⟩ | ⟨hne2,hb'⟩
   ·exact(hsep q hq2 (w8 _ (by rw [h3];exact mb.2 ⟨a,l1,ha',hq1⟩))).elim
   ·exact t4 a b l1 l2 q ha' hb' hq1 hq2
 ·rcases CG b hb2 with hb2 | hb2
  ·exact hsep b hb2 (List.mem_append_left _ hb)
  ·exact h4 b hb (by rw [h3];exact hb2)
def Ca(ent:Nat→Option Entry):List Nat→List (Nat×Entry)
 | []=> []
 |id::r=>match ent id with
  |some (.row true e t xs)=>(id,.row false e t xs)::Ca ent r
  |some (.tree e t xs none)=>(id,.row false e t xs)::Ca ent r
  |_=>Ca ent r
theorem look?_frzA{ent:Nat→Option Entry}: ∀ {l:List Nat} {i:Nat} {e:Entry},look? (Ca ent l) i=some e→i∈l∧ ∃ e0 t xs,(ent i=some (.row true e0 t xs)∨ent i=some (.tree e0 t xs none))∧e= .row false e0 t xs
 | [],i,e,h=>by simp [Ca,look?]at h
 |id::r,i,e,h=>by
  have kn: ∀ (e1:TypeId) (t:CTy) (xs:List (E t)),(ent id=some (.row true e1 t xs)∨ent id=some (.tree e1 t xs none))→look? ((id,.row false e1 t xs)::Ca ent r) i=some e→
    i∈id::r∧ ∃ e0 t xs,(ent i=some (.row true e0 t xs)∨ent i=some (.tree e0 t xs none))∧e= .row false e0 t xs:=by
   intro e1 t xs he h
   simp only [look?]at h
   cases hb:Nat.beq id i with
   |true=>
    have:=q8 hb;subst this
    simp at h;exact⟨by simp,e1,t,xs,he,h.symm⟩
   |false=>
    simp only [hb,cond_false]at h
    obtain⟨h1,h2⟩:=look?_frzA h
    exact⟨List.mem_cons_of_mem _ h1,h2⟩
  simp only [Ca]at h
  split at h
  ·rename_i e1 t xs he;exact kn e1 t xs (.inl he) h
  ·rename_i e1 t xs he;exact kn e1 t xs (.inr he) h
  ·obtain⟨h1,h2⟩:=look?_frzA h
   exact⟨List.mem_cons_of_mem _ h1,h2⟩
theorem look?_frzA_mem{ent:Nat→Option Entry}: ∀ {l:List Nat} {i:Nat} {e0:TypeId} {t:CTy} {xs:List (E t)},i∈l→(ent i=some (.row true e0 t xs)∨ent i=some (.tree e0 t xs none))→look? (Ca ent l) i=some (.row false e0 t xs)
 | [],i,_,_,_,h,_=>by cases h
 |id::r,i,e0,t,xs,h,he=>by
  have kn: ∀ (e1:TypeId) (t1:CTy) (xs1:List (E t1)),(ent id=some (.row true e1 t1 xs1)∨ent id=some (.tree e1 t1 xs1 none))→look? ((id,.row false e1 t1 xs1)::Ca ent r) i=some (.row false e0 t xs):=by
   intro e1 t1 xs1 he1
   simp only [look?]
   cases hb:Nat.beq id i with
   |true=>
    have:=q8 hb;subst this
    rcases he with he | he <;> rcases he1 with he1 | he1 <;> rw [he]at he1 <;> cases he1 <;> rfl
   |false=>
    rcases List.mem_cons.1 h with rfl | h
    ·rw [show Nat.beq i i=true from Nat.beq_refl i]at hb;cases hb
    ·exact look?_frzA_mem h he
  simp only [Ca]
  split
  ·rename_i e1 t1 xs1 he1;exact kn e1 t1 xs1 (.inl he1)
  ·rename_i e1 t1 xs1 he1;exact kn e1 t1 xs1 (.inr he1)
  ·rename_i h1 h2
   rcases List.mem_cons.1 h with rfl | h
   ·rcases he with he | he
    ·exact(h1 _ _ _ he).elim
    ·exact(h2 _ _ _ he).elim
   ·exact look?_frzA_mem h he
theorem Hp.freezeA(h:Hp B ρ ent used w): ∀ (l:List Nat),∃ ρ':Nm,ρ'.nm=ρ.nm∧ρ'.fp=ρ.fp∧Ext B used ρ ρ'∧Hp B ρ' (be ent (Ca ent l)) used w∧
  ∀ i∈l,∀ e,ent i=some e→((∃ e0 t xs,e= .row true e0 t xs)∨ ∃ e0 t xs,e= .tree e0 t xs none)→ ∀ b∈e.ob ρ i,∃ o,ρ'.mem b=some o
 | []=>⟨ρ,rfl,rfl,Ext.refl _ _ _,h,fun i hi=>by cases hi⟩
 |id::r=>by
  obtain⟨ρ1,n1,f1,x1,h1,m1⟩:=Hp.freezeA h r
  have Cc: ∀ i,ρ1 i=ρ i:=fun i=>by simp only [Nm.of,n1]
  have hobs: ∀ (e:Entry) i,e.ob ρ1 i=e.ob ρ i:=fun e i=>by
   cases e with
   |row own _ _ _=>cases own <;> simp only [Entry.ob,Cc]
   |_=>simp only [Entry.ob,Cc,f1]
  have hdone: ∀ e1,look? (Ca ent r) id=some e1→Ca ent (id::r)=(id,e1)::Ca ent r∧id∈r:=by
   intro e1 hl
   obtain⟨hm,e0,t,xs,he,rfl⟩:=look?_frzA hl
   refine⟨?_,hm⟩
   simp only [Ca]
   rcases he with he | he <;> rw [he]
  cases hl:look? (Ca ent r) id with
  |some e1=>
   obtain⟨q1,q2⟩:=hdone e1 hl
   refine⟨ρ1,n1,f1,x1,?_,fun i hi=>m1 i ?_⟩
   ·rw [q1,show be ent ((id,e1)::Ca ent r)=be ent (Ca ent r) from funext fun i=>by
     simp only [be,look?]
     cases hb:Nat.beq id i with
     |true=>have:=q8 hb;subst this;simp [hl]
     |false=>rfl]
    exact h1
   ·rcases List.mem_cons.1 hi with rfl | hi
    ·exact q2
    ·exact hi
  |none=>
   have fin: ∀ (e:TypeId) (t:CTy) (xs:List (E t)) (ρ2:Nm) (e1:Entry),ent id=some e1→be ent (Ca ent r) id=some e1→ρ2.nm=ρ1.nm→ρ2.fp=ρ1.fp→Ext B used ρ1 ρ2→(∀ b∈e1.ob ρ1 id,∃ o,ρ2.mem b=some o)→Hp B ρ2 (be (be ent (Ca ent r)) [(id,.row false e t xs)]) used w→
     ∃ ρ':Nm,ρ'.nm=ρ.nm∧ρ'.fp=ρ.fp∧Ext B used ρ ρ'∧Hp B ρ' (be ent ((id,.row false e t xs)::Ca ent r)) used w∧
      ∀ i∈id::r,∀ e,ent i=some e→((∃ e0 t xs,e= .row true e0 t xs)∨ ∃ e0 t xs,e= .tree e0 t xs none)→ ∀ b∈e.ob ρ i,∃ o,ρ'.mem b=some o:=by
    intro e t xs ρ2 e1 he1 _ n2 f2 x2 m2 h2
    rw [ux]at h2
    refine⟨ρ2,n2.trans n1,f2.trans f1,x1.trans x2 fun _ h=>h,h2,fun i hi e' he' ho b hb=> ?_⟩
    by_cases hir:i∈r
    ·obtain⟨o,ho⟩:=m1 i hir e' he' ho b hb
     exact⟨o,x2.old b o ho⟩
    ·rcases List.mem_cons.1 hi with rfl | hi
     ·rw [he1]at he';cases he'
      exact m2 b (by rw [hobs];exact hb)
     ·exact(hir hi).elim
   simp only [Ca]
   split
   ·rename_i e t xs he
    have he':be ent (Ca ent r) id=some (.row true e t xs):=by simp only [be,hl];exact he
    obtain⟨ρ2,n2,f2,m2,x2,h2⟩:=h1.freeze' he'
    exact fin e t xs ρ2 _ he he' n2 f2 x2 m2 h2
   ·rename_i e t xs he
    have he':be ent (Ca ent r) id=some (.tree e t xs none):=by simp only [be,hl];exact he
    obtain⟨ρ2,n2,f2,x2,_,m2,h2⟩:=h1.treeFreeze he'
    exact fin e t xs ρ2 _ he he' n2 f2 x2 m2 h2
   ·rename_i hn1 hn2
    refine⟨ρ1,n1,f1,x1,h1,fun i hi e he ho=> ?_⟩
    rcases List.mem_cons.1 hi with rfl | hi
    ·rcases ho with⟨_,_,_,rfl⟩ | ⟨_,_,_,rfl⟩
     ·exact(hn1 _ _ _ he).elim
     ·exact(hn2 _ _ _ he).elim
    ·exact m1 i hi e he ho
end
end Go.SX
namespace Go.SX
open Go.RowKit
def YY:List (Option CTy)→Option CTy
 | []=>none
 | [t]=>t
 |some t::r=>match YY r with
  |some u=>some (.pair t u)
  |none=>none
 |none::_=>none
def Ub(P:Program):Nat→TypeId→Option CTy
 |0,_=>none
 |f + 1,T=>match P.underlying T with
  |some (.int k)=>some (.int k)
  |some .bool=>some .bool
  |some .string=>some .str
  |some (.slice e)=>(Ub P f e).map (.sl e)
  |some (.struct fs)=>YY (fs.toList.map fun fd=>Ub P f fd.type)
  |some (.array n e)=>YY (z8 n (Ub P f e))
  |some (.func _ _ _)=>some .fn
  |_=>none
def oY{α:Type}:List (List α)→List α
 | []=> []
 |a::r=>a++oY r
def FD(P:Program):Nat→TypeId→List (Option (TypeId×CTy))
 |0,_=> [none]
 |f + 1,T=>match P.underlying T with
  |some (.slice e)=> [(Ub P f e).map fun t=>(e,t)]
  |some (.struct fs)=>oY (fs.toList.map fun fd=>FD P f fd.type)
  |some (.array n e)=>oY (z8 n (FD P f e))
  |_=> [none]
def KU:Cell→Bool
 | .val (.slice none 0 0)=>true
 |_=>false
def NP:List (Option (TypeId×CTy))→List Cell→Nat→List Cell
 |some _::ts,c::cs,n=>bif KU c then .ref n::NP ts cs (n + 1)else c::NP ts cs n
 |none::ts,c::cs,n=>c::NP ts cs n
 |_,cs,_=>cs
def UG(tr:Bool)(e:TypeId)(t:CTy):Entry:=
 match tr,t.flat with
 |true,false=> .tree e t [] none
 |_,_=> .row true e t []
def Kr(tr:Bool):List (Option (TypeId×CTy))→List Cell→Nat→List (Nat×Entry)
 |some (e,t)::ts,c::cs,n=>bif KU c then(n,UG tr e t)::Kr tr ts cs (n + 1)else Kr tr ts cs n
 |none::ts,_::cs,n=>Kr tr ts cs n
 |_,_,_=> []
structure Fix where
 v:V1
 es:List (Nat×Entry)
def AZ(P:Program)(tr:Bool)(T:TypeId)(n:Nat)(v:V1):Fix:=
 match v.cs.any KU with
 |true=>⟨⟨v.agg,NP (FD P 12 T) v.cs n⟩,Kr tr (FD P 12 T) v.cs n⟩
 |false=>⟨v,[]⟩
def qg{α:Type}(l:List (Nat×α)):List Nat:=l.map (·.1)
def V1.cells?(v:V1):Option (List Cell):=
 match v.agg,v.cs with
 |true,cs=>some cs
 |false,[.val (.agg _)]=>none
 |false,[c]=>some [c]
 |false,_=>none
def Cell.one:Cell→Bool
 | .val v=>v.oneCell'
 |_=>true
def aba:TypeDesc→Bool
 | .struct _ | .array _ _=>true
 |_=>false
def NJ(P:Program)(T:TypeId)(off:Nat)(cs:List Cell):Option V1:=
 match P.underlying T,P.info? T with
 |some d,some i=>
  match aba d with
  |true=>bif Nat.ble (off + i.size) cs.length then some ⟨true,(cs.drop off).take i.size⟩else none
  |false=>match cs[off]? with
   |some c=>some ⟨false,[c]⟩
   |none=>none
 |_,_=>none
def wv(P:Program)(T:TypeId)(off n:Nat)(ns:List Cell):Bool:=
 match P.info? T with
 |some i=>Nat.beq ns.length i.size&&Nat.ble (off + ns.length) n&&ns.all Cell.one
 |none=>false
def Ue(P:Program)(T:TypeId)(f:Nat):Option Nat:=
 match P.underlying T with
 |some (.struct fs)=>match fs[f]? with
  |some fd=>match P.info? fd.type with
   |some i=>bif Nat.beq i.size 0 then none else some fd.offset
   |none=>none
  |none=>none
 |_=>none
def QX(Rv:Nat→Option (Nat×Nat))(cells:List Cell):List (Nat×V1)→Option (List Cell)
 | []=>some cells
 |(i,v)::rest=>match Rv i,v.cells? with
  |some (off,size),some ns=>bif Nat.beq ns.length size&&Nat.ble (off + ns.length) cells.length then QX Rv (cells.take off++ns++cells.drop (off + ns.length)) rest else none
  |_,_=>none
def Rv(P:Program)(fs:Array Field)(i:Nat):Option (Nat×Nat):=
 match fs[i]? with
 |some fd=>match P.info? fd.type with
  |some j=>some (fd.offset,j.size)
  |none=>none
 |none=>none
def Raw.ofV(v:SV):Raw:=⟨v,[],[],[]⟩
def one(c:Cell):SV:= .one ⟨false,[c]⟩
def SF:SV:= .ofValue undef
def vof(look:Nat→Option SS)(A:List (Nat×Bool))(x:Operand):Value:=
 match ev look A x with
 |some v=>match v.toValue? with
  |some u=>u
  |none=>undef
 |none=>undef
def vok(look:Nat→Option SS)(A:List (Nat×Bool))(x:Operand):Bool:=
 match ev look A x with
 |some v=>v.toValue?.isSome
 |none=>false
def DW:Op→List Operand
 | .call c=>(match c.callee with | .value f=> [f] | .invoke r _=> [r] | .builtin _=> [])++c.args.toList
 |op=>op.operands.toList
theorem aar{op:Op}{x:Operand}(h:x∈op.operands):x∈DW op:=by
 cases op with
 |call c=>
  simp only [Op.operands,Call.operands]at h
  simp only [DW]
  cases hc:c.callee <;> simp [hc]at h ⊢ <;> exact h
 |_=>simpa [DW] using h
def DX(P:Program)(look:Nat→Option SS)(A:List (Nat×Bool))(o:Oper):Option Raw:=
 bif(DW o.op).all (vok look A)then
  match JG P (execOp (vof look A) o)with
  |some (.value v)=>some (.ofV (.ofValue v))
  |_=>none
 else none
def evC(look:Nat→Option SS)(A:List (Nat×Bool))(x:Operand):Option Cell:=
 match ev look A x with
 |some (.one ⟨false,[c]⟩)=>some c
 |_=>none
def evI(look:Nat→Option SS)(A:List (Nat×Bool))(x:Operand):Option Int:=
 match evC look A x with
 |some (.val (.int _ i))=>some i
 |_=>none
def ev1(look:Nat→Option SS)(A:List (Nat×Bool))(x:Operand):Option V1:=
 match ev look A x with
 |some (.one v)=>some v
 |_=>none
def evs(look:Nat→Option SS)(A:List (Nat×Bool)):List Operand→Option (List SV)
 | []=>some []
 |x::r=>match ev look A x,evs look A r with
  |some v,some vs=>some (v::vs)
  |_,_=>none
def aag(look:Nat→Option SS)(A:List (Nat×Bool)):List (Nat×Operand)→Option (List (Nat×V1))
 | []=>some []
 |(i,x)::r=>match ev1 look A x,aag look A r with
  |some v,some vs=>some ((i,v)::vs)
  |_,_=>none
def uw(P:Program)(T:TypeId)(t:CTy):Bool:=
 match P.underlying T with
 |some (.slice e)=>match P.info? e with
  |some i=>Nat.beq i.size t.size
  |none=>false
 |_=>false
section
variable(P:Program)(tbl:List (PF P))(tr:Bool)(look:Nat→Option SS)(ent:Nat→Option Entry)(A:List (Nat×Bool))(nid:Nat)
def ZP(T:TypeId)(x:Operand):Option Raw:=
 match ev look A x with
 |some (.one v)=>let f:=AZ P tr T nid v;some ⟨.one f.v,f.es,qg f.es,[]⟩
 |some v=>some (.ofV v)
 |none=>none
def abr(c x y:Operand):Option Raw:=
 match c,evC look A c with
 | .tmp jc,some (.val (.bool cb))=>match ev look ((jc,true)::A) x,ev look ((jc,false)::A) y with
  |some vx,some vy=>(BA cb vx vy).map Raw.ofV
  |_,_=>none
 |_,_=>none
def Ys(T:TypeId):Option Raw:=
 match P.info? T with
 |some i=>match i.zero with
  |some z=>let f:=AZ P tr T (nid + 1) ⟨true,z.cells.toList.map .val⟩;some ⟨one (.ptr nid 0),(nid,.box T f.v.cs)::f.es,nid::qg f.es,[]⟩
  |none=>none
 |none=>none
def acA(T:TypeId)(x:Operand):Option Raw:=
 match ev1 look A x with
 |some v=>match v.cells? with
  |some cs=>let f:=AZ P tr T (nid + 1) ⟨true,cs⟩;some ⟨one (.ptr nid 0),(nid,.box T f.v.cs)::f.es,nid::qg f.es,[]⟩
  |none=>none
 |none=>none
def abh(T:TypeId)(x:Operand):Option Raw:=
 match evC look A x with
 |some (.ptr id off)=>match ent id with
  |some (.box _ cs)=>match NJ P T off cs with
   |some v=>some (.ofV (.one v))
   |none=>none
  |_=>none
 |some (.el id z i off)=>match ent id with
  |some (.row _ _ t xs)=>bif Nat.beq z t.size then
    match NJ P T off (qn t (xs[i]?.getD (tC t)) nid)with
    |some v=>some ⟨.one v,Co t (xs[i]?.getD (tC t)) nid,aK nid t.nsl,[decide (i < xs.length)]⟩
    |none=>none
   else none
  |some (.tree e t xs none)=>bif Nat.beq z t.size then
    match NJ P T off (qn t (xs[i]?.getD (tC t)) nid)with
    |some v=>match LH v.cs with
     |some _=>some ⟨.one v,[],[],[decide (i < xs.length)]⟩
     |none=>some ⟨.one v,(id,.tree e t xs (some (i,qn t (xs[i]?.getD (tC t)) nid)))::wB t (xs[i]?.getD (tC t)) nid,aK nid t.nsl,[decide (i < xs.length)]⟩
    |none=>none
   else none
  |_=>none
 |_=>none
def Zq(T:TypeId)(x y:Operand):Option Raw:=
 match evC look A x,ev1 look A y with
 |some (.ptr id off),some v=>match ent id,v.cells? with
  |some (.box U cs),some ns=>bif wv P T off cs.length ns then some ⟨SF,[(id,.box U (cs.take off++ns++cs.drop (off + ns.length)))],[],[]⟩else none
  |_,_=>none
 |some (.el id z i off),some v=>match ent id,v.cells? with
  |some (.row true e t xs),some ns=>bif Nat.beq z t.size&&wv P T off t.size ns&&(t.flat||Nat.beq off 0&&Nat.beq ns.length t.size)then
    let old:=qn t (xs[i]?.getD (tC t)) nid
    match wC ent t (old.take off++ns++old.drop (off + ns.length))with
    |some (y,l)=>bif memN l id then none else some ⟨SF,(id,.row true e t (xs.set i y))::frz ent l,[],[decide (i < xs.length)]⟩
    |none=>none
   else none
  |some (.wk e t xs),some ns=>bif Nat.beq z t.size&&wv P T off t.size ns then
    let old:=qn t (xs[i]?.getD (tC t)) nid
    match wC ent t (old.take off++ns++old.drop (off + ns.length))with
    |some (y,[])=>some ⟨SF,[(id,.wk e t (xs.set i y))],[],[decide (i < xs.length)]⟩
    |_=>none
   else none
  |some (.tree e t xs none),some ns=>bif Nat.beq z t.size&&wv P T off t.size ns then
    some ⟨SF,(id,.tree e t xs (some (i,(qn t (xs[i]?.getD (tC t)) nid).take off++ns++(qn t (xs[i]?.getD (tC t)) nid).drop (off + ns.length))))::wB t (xs[i]?.getD (tC t)) nid,aK nid t.nsl,[decide (i < xs.length)]⟩
   else none
  |_,_=>none
 |_,_=>none
def Qk(T:TypeId)(x:Operand)(f:Nat):Option Raw:=
 match evC look A x,Ue P T f with
 |some (.ptr id off),some d=>some (.ofV (one (.ptr id (off + d))))
 |some (.el id z i off),some d=>some (.ofV (one (.el id z i (off + d))))
 |_,_=>none
def YI(T:TypeId)(x:Operand)(f:Nat):Option Raw:=
 match ev1 look A x,P.underlying T with
 |some ⟨true,cs⟩,some (.struct fs)=>match fs[f]? with
  |some fd=>match NJ P fd.type fd.offset cs with
   |some v=>some (.ofV (.one v))
   |none=>none
  |none=>none
 |_,_=>none
def Si(x:Operand):Option Raw:=
 match evC look A x with
 |some (.val _)=>none
 |some (.ref _)=>none
 |some (.vw _ _ _)=>none
 |some c=>some (.ofV (one c))
 |none=>none
def Qn(T:TypeId)(x ix:Operand):Option Raw:=
 match evC look A x,evI look A ix with
 |some (.ref id),some i=>match ent id with
  |some (.row _ _ t xs)=>bif uw P T t then some ⟨one (.el id t.size i.toNat 0),[],[],[decide (0≤i),decide (i < xs.length)]⟩else none
  |some (.tree _ t xs none)=>bif uw P T t then some ⟨one (.el id t.size i.toNat 0),[],[],[decide (0≤i),decide (i < xs.length)]⟩else none
  |some (.wk _ t xs)=>bif uw P T t then some ⟨one (.el id t.size i.toNat 0),[],[],[decide (0≤i),decide (i < xs.length)]⟩else none
  |_=>none
 |some (.ptr id off),some i=>match P.underlying T with
  |some (.array n e)=>match P.info? e with
   |some inf=>some ⟨one (.ptr id (off + i.toNat * inf.size)),[],[],[decide (0≤i),decide (i < n)]⟩
   |none=>none
  |_=>none
 |_,_=>none
def YQ(T:TypeId)(x ix:Operand):Option Raw:=
 match evC look A x,evI look A ix,P.underlying T with
 |some (.val (.string s)),some i,some .string=>some ⟨one (.val (.int .u8 (s[i.toNat]?.getD 0).toNat)),[],[],[decide (0≤i),decide (i < s.size)]⟩
 |_,_,_=>none
def bnd(x:Option Operand)(d:Int):Option Int:=
 match x with
 |none=>some d
 |some y=>evI look A y
def Zn(fr:Bool)(T:TypeId)(x:Operand)(lo hi mx:Option Operand):Option Raw:=
 match mx,evC look A x with
 |none,some (.val (.string s))=>match bnd look A lo 0,bnd look A hi s.size,P.underlying T with
  |some l,some h,some .string=>some ⟨one (.val (.string (s.extract l.toNat h.toNat))),[],[],[decide (0≤l),decide (l≤h),decide (h≤s.size)]⟩
  |_,_,_=>none
 |none,some (.ref id)=>match ent id with
  |some (.row own e t xs)=>match bnd look A lo 0,bnd look A hi xs.length with
   |some l,some h=>bif uw P T t then
     match own,lo,fr with
     |true,none,false=>some ⟨one (.ref nid),[(nid,.row true e t (xs.take h.toNat)),(id,.gone)],[nid],[decide (0≤h),decide (h≤xs.length)]⟩
     |_,_,_=>some ⟨one (.ref nid),(nid,.row false e t ((xs.take h.toNat).drop l.toNat))::frz ent [id],[nid],[decide (0≤l),decide (l≤h),decide (h≤xs.length)]⟩
    else none
   |_,_=>none
  |_=>none
 |_,_=>none
def aaw:List SV→Option (List Nat)
 | []=>some []
 | .one ⟨false,[.ptr id 0]⟩::r=>(aaw r).map (id:: ·)
 |_::_=>none
def Yv:List Cell→Option (List (Nat×Option Value))
 | []=>some []
 | .ref id::r=>(Yv r).map ((id,none):: ·)
 | .val v::r=>(Yv r).map ((0,some v):: ·)
 |_::_=>none
def Se(fn:Fn)(first captured:Array Operand):Option Raw:=
 match fn,first.toList,evs look A captured.toList with
 | .func f,[x],some []=>match ev look A x with
  |some (.one ⟨true,cs⟩)=>match Yv cs with
   |some vs=>some (.ofV (one (.bnd f vs)))
   |none=>none
  |_=>none
 | .func f,[],some vs=>match vs with
  | []=>some (.ofV (one (.val (.func (.func f) #[] #[]))))
  |_=>match aaw vs with
   |some ids=>some (.ofV (one (.clo f ids)))
   |none=>none
 |_,_,_=>none
def Qq(T:TypeId)(l c:Operand):Option Raw:=
 match evI look A l,evI look A c,P.underlying T with
 |some n,some m,some (.slice e)=>match P.info? e,Ub P 12 e with
  |some inf,some t=>match inf.zero with
   |some z=>match wC (fun _=>none) t (z.cells.toList.map .val)with
    |some (x0,_)=>bif Nat.beq inf.size t.size&&Nat.beq z.cells.size t.size then
      bif tr&& !t.flat then
       (match wD (fun _=>none) t (z.cells.toList.map .val)with
       |some (y0,_)=>some ⟨one (.ref nid),[(nid,.tree e t (z8 n.toNat y0) none)],[nid],[decide (0≤n),decide (n≤m),decide ((inf.bytes:Int) * m≤281474976710656),decide (m≤9223372036854775807)]⟩
       |none=>none)
      else some ⟨one (.ref nid),[(nid,.row true e t (z8 n.toNat x0))],[nid],[decide (0≤n),decide (n≤m),decide ((inf.bytes:Int) * m≤281474976710656),decide (m≤9223372036854775807)]⟩
     else none
    |none=>none
   |none=>none
  |_,_=>none
 |_,_,_=>none
def LY:List Nat→Bool
 | []=>true
 |i::r=> !memN r i&&LY r
def RR(t:CTy):List Cell→Nat→Option (List (E t)×List Nat)
 | [],0=>some ([],[])
 |_::_,0=>none
 |cs,n + 1=>match wC ent t (cs.take t.size),RR t (cs.drop t.size) n with
  |some (x,l),some (xs,m)=>some (x::xs,l++m)
  |_,_=>none
def Ny(T:TypeId)(len:Nat)(parts:Array (Nat×Operand)):Option Raw:=
 match P.underlying T,aag look A parts.toList with
 |some (.slice e),some vs=>match P.info? e,Ub P 12 e with
  |some inf,some t=>match inf.zero with
   |some z=>match QX (fun i=>some (i * t.size,t.size)) (oY (z8 len (z.cells.toList.map .val))) vs with
    |some cs=>bif tr&& !t.flat then
      (match Oc ent t cs len with
      |some (xs,l)=>bif Nat.beq inf.size t.size&&Nat.beq z.cells.size t.size&&Nat.ble (len * t.size) 16777216&&LY (ol l)then
        some ⟨one (.ref nid),(nid,.tree e t xs none)::Hx (ol l),[nid],[]⟩
       else none
      |none=>none)
     else
      (match RR ent t cs len with
      |some (xs,l)=>bif Nat.beq inf.size t.size&&Nat.beq z.cells.size t.size&&Nat.ble (len * t.size) 16777216 then
        some ⟨one (.ref nid),(nid,.row true e t xs)::frz ent l,[nid],[]⟩
       else none
      |none=>none)
    |none=>none
   |none=>none
  |_,_=>none
 |_,_=>none
def Yx(T:TypeId)(parts:Array (Nat×Operand)):Option Raw:=
 match P.underlying T,P.info? T,aag look A parts.toList with
 |some (.struct fs),some inf,some vs=>match inf.zero with
  |some z=>match QX (Rv P fs) (z.cells.toList.map .val) vs with
   |some cs=>bif fs.all (fun fd=>(P.info? fd.type).isSome)then let f:=AZ P tr T nid ⟨true,cs⟩;some ⟨.one f.v,f.es,qg f.es,[]⟩else none
   |none=>none
  |none=>none
 |_,_,_=>none
def acC(op:BinOp)(x y:Operand):Option Raw:=
 match op,evC look A x,evC look A y with
 | .quo,some (.val (.int k a)),some (.val (.int k' b))=>if k=k' then some ⟨one (.val (.int k (k.wrap (a.tdiv b)))),[],[],[decide (b≠0)]⟩else none
 | .rem,some (.val (.int k a)),some (.val (.int k' b))=>if k=k' then some ⟨one (.val (.int k (a.tmod b))),[],[],[decide (b≠0)]⟩else none
 | .shl,some (.val (.int k a)),some (.val (.int _ b))=>some ⟨one (.val (.int k (k.wrap (a * 2 ^ (min b.toNat k.bits))))),[],[],[decide (0≤b)]⟩
 | .shr,some (.val (.int k a)),some (.val (.int _ b))=>some ⟨one (.val (.int k (a.fdiv (2 ^ (min b.toNat k.bits))))),[],[],[decide (0≤b)]⟩
 |_,_,_=>none
def Il(T:Option TypeId):Bool:=
 match T with
 |some t=>match P.underlying t with
  |some (.slice _)=>true
  |_=>false
 |none=>false
def acM(ts:Array TypeId)(x:Operand):Option Raw:=
 match evC look A x with
 |some (.ref id)=>match ent id with
  |some (.row _ _ _ xs)=>bif Il P ts[0]? then some (.ofV (one (.val (.int .i64 xs.length))))else none
  |some (.tree _ _ xs _)=>bif Il P ts[0]? then some (.ofV (one (.val (.int .i64 xs.length))))else none
  |some (.wk _ _ xs)=>bif Il P ts[0]? then some (.ofV (one (.val (.int .i64 xs.length))))else none
  |_=>none
 |_=>none
def Wk(ts:Array TypeId)(x y:Operand):Option Raw:=
 match evC look A x,evC look A y,ts.toList with
 |some (.ref id),some (.ref jd),[t1,t2]=>match ent id,ent jd with
  |some (.row true e t xs),some (.row _ _ t' ys)=>match P.underlying t1,P.info? e with
   |some (.slice e'),some inf=>match inf.zero with
    |some z=>if h:t'=t then
      bif Nat.beq t1 t2&&Nat.beq e' e&&Nat.beq inf.size t.size&&Nat.beq z.cells.size t.size then
       some ⟨one (.ref nid),[(nid,.row true e t (xs++(h ▸ ys))),(id,.gone)],[nid],[decide (xs.length + ys.length≤9223372036854775807),decide ((xs.length + ys.length) * inf.bytes≤140737488355328)]⟩
      else none
     else none
    |none=>none
   |_,_=>none
  |some (.tree e t xs none),some (.tree _ t' ys none)=>match P.underlying t1,P.info? e with
   |some (.slice e'),some inf=>match inf.zero with
    |some z=>if h:t'=t then
      bif Nat.beq t1 t2&&Nat.beq e' e&&Nat.beq inf.size t.size&&Nat.beq z.cells.size t.size&& !Nat.beq id jd then
       some ⟨one (.ref nid),[(nid,.tree e t (xs++(h ▸ ys)) none),(id,.gone),(jd,.gone)],[nid],[decide (xs.length + ys.length≤9223372036854775807),decide ((xs.length + ys.length) * inf.bytes≤140737488355328)]⟩
      else none
     else none
    |none=>none
   |_,_=>none
  |_,_=>none
 |some (.ref id),some (.val (.slice (some _) 0 _)),[t1,t2]=>match ent id with
  |some (.row true e t xs)=>match P.underlying t1,P.info? e with
   |some (.slice e'),some inf=>match inf.zero with
    |some z=>
      bif Nat.beq t1 t2&&Nat.beq e' e&&Nat.beq inf.size t.size&&Nat.beq z.cells.size t.size then
       some ⟨one (.ref nid),[(nid,.row true e t xs),(id,.gone)],[nid],[decide (xs.length≤9223372036854775807),decide (xs.length * inf.bytes≤140737488355328)]⟩
      else none
    |none=>none
   |_,_=>none
  |_=>none
 |some (.ref id),some (.val (.slice none 0 0)),[t1,t2]=>match ent id with
  |some (.row true e t xs)=>match P.underlying t1,P.info? e with
   |some (.slice e'),some inf=>match inf.zero with
    |some z=>
      bif Nat.beq t1 t2&&Nat.beq e' e&&Nat.beq inf.size t.size&&Nat.beq z.cells.size t.size then
       some ⟨one (.ref nid),[(nid,.row true e t xs),(id,.gone)],[nid],[decide (xs.length≤9223372036854775807),decide (xs.length * inf.bytes≤140737488355328)]⟩
      else none
    |none=>none
   |_,_=>none
  |_=>none
 |_,_,_=>none
end
end Go.SX
namespace Go.SX
open Go.RowKit
structure Ctx (B:Base) (ρ:Nm) (s:St) (a:Act) (w:World) (look:Nat→Option SS) (ent:Nat→Option Entry) (A:List (Nat×Bool)):Prop where
 hM:Mdl B ρ s a w
 hL: ∀ k x,look k=some x→s.look k=some x
 hE: ∀ id e,ent id=some e→s.ent id=some e
 hA: ∀ q∈A,yl a.tmps q.1=some q.2
def lr(B:Base)(s:St)(ρ:Nm)(r:Raw)(o:Oper)(a:Act)(K:Act→World→Prop):Prop:= ∀ (ρ':Nm) (u:Value) (w':World),Ext B s.used ρ ρ'→u=r.v.conc ρ'→Hp B ρ' (be s.ent r.es) (bq s.used r.new) w'→K (a.put o.dst u) w'
section
variable{P:Program}{tbl:List (PF P)}{tr:Bool}{s:St}{look:Nat→Option SS}{ent:Nat→Option Entry}{A:List (Nat×Bool)}{nid:Nat}{o:Oper}{r:Raw}{B:Base}{ρ:Nm}{a:Act}{w:World}{K:Act→World→Prop}{Q:Exit→Act→World→Prop}
theorem Ctx.ev(c:Ctx B ρ s a w look ent A){x:Operand}{v:SV}(h:ev look A x=some v):a.eval x=v.conc ρ∧v.inU s.used:=⟨TD c.hM c.hL c.hA h,acF c.hM c.hL h⟩
theorem Ctx.evC(c:Ctx B ρ s a w look ent A){x:Operand}{v:Cell}(h:evC look A x=some v):a.eval x=v.conc ρ∧v.inU s.used:=by
 unfold SX.evC at h
 split at h
 ·rename_i u hu
  cases h
  obtain⟨h1,h2⟩:=c.ev hu
  exact⟨h1,h2 _ (by simp)⟩
 ·cases h
theorem Ctx.evI(c:Ctx B ρ s a w look ent A){x:Operand}{i:Int}(h:evI look A x=some i): ∃ k,a.eval x= .int k i:=by
 unfold SX.evI at h
 split at h
 ·rename_i k i' hu
  cases h
  exact⟨k,(c.evC hu).1⟩
 ·cases h
theorem Ctx.ev1(c:Ctx B ρ s a w look ent A){x:Operand}{v:V1}(h:ev1 look A x=some v):a.eval x=v.conc ρ∧v.inU s.used:=by
 unfold SX.ev1 at h
 split at h
 ·rename_i u hu
  cases h
  exact c.ev hu
 ·cases h
theorem Ctx.hp(c:Ctx B ρ s a w look ent A):Hp B ρ s.ent s.used w:=c.hM.hp
theorem V1.cells?_conc(ρ:Nm){v:V1}{cs:List Cell}(h:v.cells? =some cs):(v.conc ρ).cells=(cs.map (Cell.conc ρ)).toArray:=by
 obtain⟨g,l⟩:=v
 unfold V1.cells? at h
 split at h
 ·rename_i e1;simp only at e1 h;subst e1;cases h;rfl
 ·cases h
 ·rename_i c Hy e1 e2
  simp only at e1 e2;subst e1 e2;cases h
  show ((V1.mk false [c]).conc ρ).cells=_
  simp only [V1.conc]
  cases c with
  |val v=>
   cases v with
   |agg x=>exact(Hy x rfl).elim
   |_=>rfl
  |ref id=>simp only [Cell.conc,z6,List.map_nil];exact UV _
  |vw id z k=>simp only [Cell.conc,z6,List.map_nil];exact UV _
  |_=>rfl
 ·cases h
theorem V1.cells?_inU{U:Nat→Bool}{v:V1}{cs:List Cell}(hv:v.inU U)(h:v.cells? =some cs): ∀ c∈cs,c.inU U:=by
 obtain⟨g,l⟩:=v
 unfold V1.cells? at h
 split at h
 ·cases h;exact hv
 ·cases h
 ·rename_i e1 e2;simp only at e1 e2;subst e1 e2;cases h;exact hv
 ·cases h
theorem az{u:Value}{w':World}(hr:(execOp a.eval o).run P w= .ok (.value u) w')(h:K (a.put o.dst u) w'):o.wp P a w K Q:=by
 unfold Oper.wp;rw [hr];exact h
theorem Hh{w':World}(hr:(execOp a.eval o).run P w= .ok .skip w')(h:K (a.put o.dst undef) w'):o.wp P a w K Q:=by
 unfold Oper.wp;rw [hr];exact h
theorem lr.same{v:SV}{nd:List Bool}(hr:r=⟨v,[],[],nd⟩)(hC:lr B s ρ r o a K){w':World}(hp:Hp B ρ s.ent s.used w'):K (a.put o.dst (v.conc ρ)) w':=by
 subst hr
 exact hC ρ _ w' (Ext.refl _ _ _) rfl hp
def BB(ρ:Nm)(L:List Nat):Nm:=⟨fun i=>bif memN L i then .slice none 0 0 else ρ.nm i,ρ.mem,fun i=>bif memN L i then []else ρ.fp i⟩
theorem memN_mem: ∀ {l:List Nat} {i:Nat},memN l i=true↔i∈l
 | [],i=>by simp [memN]
 |p::l,i=>by
  simp only [memN,List.mem_cons]
  cases hb:Nat.beq p i with
  |true=>have:=q8 hb;simp [this]
  |false=>
   have Hy:p≠i:=fun e=>by subst e;simp at hb
   simp only [cond_false,memN_mem]
   constructor
   ·exact .inr
   ·rintro(rfl | h)
    ·exact(Hy rfl).elim
    ·exact h
theorem YS{c:Cell}(h:KU c=true)(ρ:Nm):c.conc ρ= .slice none 0 0:=by
 unfold KU at h
 split at h
 ·rfl
 ·cases h
theorem Oh{ρ:Nm}{L:List Nat}: ∀ (ts:List (Option (TypeId×CTy))) (cs:List Cell) (n:Nat),(∀ i∈qg (Kr tr ts cs n),i∈L)→(∀ c∈cs,c.conc (BB ρ L)=c.conc ρ)→
  (NP ts cs n).map (Cell.conc (BB ρ L))=cs.map (Cell.conc ρ)
 | [],cs,n,_,hc=>by simp only [NP];exact List.map_congr_left hc
 |none::ts,[],n,_,hc=>rfl
 |some _::ts,[],n,_,hc=>rfl
 |none::ts,c::cs,n,hk,hc=>by
  simp only [NP,z6]
  rw [hc c (by simp),Oh ts cs n hk fun c hm=>hc c (by simp [hm])]
 |some (e,t)::ts,c::cs,n,hk,hc=>by
  simp only [NP]
  simp only [Kr]at hk
  cases hn:KU c with
  |true=>
   simp only [hn,cond_true]at hk ⊢
   simp only [z6]
   rw [Oh ts cs (n + 1) (fun i hi=>hk i (by simp [qg]at hi ⊢;exact .inr hi)) fun c hm=>hc c (by simp [hm])]
   have:memN L n=true:=memN_mem.2 (hk n (by simp [qg]))
   rw [YS hn]
   simp [Cell.conc,Nm.of,BB,this,CU]
  |false=>
   simp only [hn,cond_false]at hk ⊢
   simp only [z6]
   rw [hc c (by simp),Oh ts cs n hk fun c hm=>hc c (by simp [hm])]
theorem Oi: ∀ (ts:List (Option (TypeId×CTy))) (cs:List Cell) (n:Nat) (i:Nat) (e:Entry),look? (Kr tr ts cs n) i=some e→i∈qg (Kr tr ts cs n)∧ ∃ e0 t,e=UG tr e0 t
 | [],cs,n,i,e,h=>by simp [Kr,look?]at h
 |none::ts,[],n,i,e,h=>by simp [Kr,look?]at h
 |some _::ts,[],n,i,e,h=>by simp [Kr,look?]at h
 |none::ts,c::cs,n,i,e,h=>Oi ts cs n i e h
 |some (e0,t)::ts,c::cs,n,i,e,h=>by
  simp only [Kr]at h ⊢
  cases hn:KU c with
  |true=>
   simp only [hn,cond_true]at h ⊢
   simp only [look?]at h
   cases hb:Nat.beq n i with
   |true=>
    have:=q8 hb;subst this
    simp at h;subst h
    exact⟨by simp [qg],e0,t,rfl⟩
   |false=>
    simp [hb]at h
    obtain⟨h1,h2⟩:=Oi ts cs (n + 1) i e h
    exact⟨by simp only [qg,z6,List.mem_cons]at h1 ⊢;exact .inr h1,h2⟩
  |false=>
   simp only [hn,cond_false]at h ⊢
   exact Oi ts cs n i e h
theorem TH: ∀ (ts:List (Option (TypeId×CTy))) (cs:List Cell) (n:Nat) (i:Nat),i∈qg (Kr tr ts cs n)→n≤i
 | [],cs,n,i,h=>by simp [Kr,qg]at h
 |none::ts,[],n,i,h=>by simp [Kr,qg]at h
 |some _::ts,[],n,i,h=>by simp [Kr,qg]at h
 |none::ts,c::cs,n,i,h=>TH ts cs n i h
 |some (e0,t)::ts,c::cs,n,i,h=>by
  simp only [Kr]at h
  cases hn:KU c with
  |true=>
   simp only [hn,cond_true,qg,z6,List.mem_cons]at h
   rcases h with rfl | h
   ·exact Nat.le_refl _
   ·have:=TH ts cs (n + 1) i h;omega
  |false=>simp only [hn,cond_false]at h;exact TH ts cs n i h
theorem Rq{U:Nat→Bool}: ∀ (ts:List (Option (TypeId×CTy))) (cs:List Cell) (n:Nat),(∀ i∈qg (Kr tr ts cs n),U i=true)→(∀ c∈cs,c.inU U)→ ∀ c∈NP ts cs n,c.inU U
 | [],cs,n,_,hc=>by simp only [NP];exact hc
 |none::ts,[],n,_,hc=>by simp [NP]
 |some _::ts,[],n,_,hc=>by simp [NP]
 |none::ts,c::cs,n,hk,hc=>by
  simp only [NP]
  intro x hx
  rcases List.mem_cons.1 hx with rfl | hx
  ·exact hc _ (by simp)
  ·exact Rq ts cs n hk (fun c hm=>hc c (by simp [hm])) x hx
 |some (e,t)::ts,c::cs,n,hk,hc=>by
  simp only [NP]
  simp only [Kr]at hk
  cases hn:KU c with
  |true=>
   simp only [hn,cond_true]at hk ⊢
   intro x hx
   rcases List.mem_cons.1 hx with rfl | hx
   ·exact hk n (by simp [qg])
   ·exact Rq ts cs (n + 1) (fun i hi=>hk i (by simp [qg]at hi ⊢;exact .inr hi)) (fun c hm=>hc c (by simp [hm])) x hx
  |false=>
   simp only [hn,cond_false]at hk ⊢
   intro x hx
   rcases List.mem_cons.1 hx with rfl | hx
   ·exact hc _ (by simp)
   ·exact Rq ts cs n hk (fun c hm=>hc c (by simp [hm])) x hx
theorem Xs{U:Nat→Bool}{T:TypeId}{n:Nat}{v:V1}(hv:v.inU U)(hk: ∀ i∈qg (AZ P tr T n v).es,U i=true):(AZ P tr T n v).v.inU U:=by
 unfold AZ at hk ⊢
 cases hb:v.cs.any KU with
 |false=>exact hv
 |true=>simp only [hb]at hk ⊢;exact Rq _ _ _ hk hv
theorem abO{T:TypeId}{n:Nat}{v:V1}{i:Nat}(h:i∈qg (AZ P tr T n v).es):n≤i:=by
 unfold AZ at h
 cases hb:v.cs.any KU with
 |false=>simp [hb,qg]at h
 |true=>simp only [hb]at h;exact TH _ _ _ _ h
theorem LM{ent:Nat→Option Entry}{used:Nat→Bool}(h:Hp B ρ ent used w){T:TypeId}{n:Nat}{v:V1}(hv:v.inU used)(It: ∀ i∈qg (AZ P tr T n v).es,used i=false):
  ∃ ρ':Nm,Ext B used ρ ρ'∧ρ'.mem=ρ.mem∧Hp B ρ' (be ent (AZ P tr T n v).es) (bq used (qg (AZ P tr T n v).es)) w∧(AZ P tr T n v).v.conc ρ'=v.conc ρ∧
   ((AZ P tr T n v).v.agg=v.agg)∧(AZ P tr T n v).v.cs.map (Cell.conc ρ')=v.cs.map (Cell.conc ρ):=by
 obtain⟨g,cs⟩:=v
 unfold AZ at It ⊢
 cases hb:cs.any KU with
 |false=>exact⟨ρ,Ext.refl _ _ _,rfl,h,rfl,rfl,rfl⟩
 |true=>
  simp only [hb]at It ⊢
  let L:=qg (Kr tr (FD P 12 T) cs n)
  have Cc: ∀ id,used id=true→BB ρ L id=ρ id:=fun id iU=>by
   have:memN L id=false:=by
    cases hm:memN L id with
    |false=>rfl
    |true=>rw [It id (memN_mem.1 hm)]at iU;cases iU
   simp [Nm.of,BB,this]
  have LR:=Oh (ρ:=ρ) (L:=L) (FD P 12 T) cs n (fun i hi=>hi) fun c hc=>Cell.conc_congr Cc (hv c hc)
  obtain⟨hx,hp⟩:=h.names (ρ':=BB ρ L) (es:=Kr tr (FD P 12 T) cs n) (new:=L) Cc rfl (hfp:=fun id iU _=>by
   have:memN L id=false:=by
    cases hm:memN L id with
    |false=>rfl
    |true=>rw [It id (memN_mem.1 hm)]at iU;cases iU
   simp [BB,this]) fun id e he=>by
   obtain⟨h1,e0,t,rfl⟩:=Oi _ _ _ _ _ he
   have hm:memN L id=true:=memN_mem.2 h1
   have hv:BB ρ L id= .slice none 0 0:=by simp [Nm.of,BB,hm,CU]
   have hfp:(BB ρ L).fp id= []:=by simp [BB,hm]
   have hr:(Entry.row true e0 t []).holds B (BB ρ L) w id:=by
    simp only [Entry.holds,hv]
    exact⟨[],Lb _ _ _,iT.nil _ _,by simp [fZ]⟩
   have ht:(Entry.tree e0 t [] none).holds B (BB ρ L) w id:=by
    simp only [Entry.holds,hv,hfp]
    exact⟨[],[],Lb _ _ _,⟨rfl,fun k hc h=>(by cases h),fun i x l _ hx=>(by simp at hx),fun i j l l' k hl=>(by simp at hl)⟩,rfl,(by simp [fZ]),(by simp [fZ])⟩
   refine⟨?_,by simp [bq,hm],?_,?_⟩
   ·unfold UG;split
    ·exact ht
    ·exact hr
   ·unfold UG;split <;> trivial
   ·unfold UG;split <;> simp only [Entry.ob,hv,fZ,hfp,List.append_nil]
  refine⟨BB ρ L,hx,rfl,hp,?_,trivial,LR⟩
  simp only [V1.conc]
  cases g with
  |true=>simp only [LR]
  |false=>
   match cs,LR with
   | [],_=>cases FD P 12 T with
    |nil=>rfl
    |cons t _=>cases t <;> rfl
   | [c],LR=>
    have hl: ∃ c',NP (FD P 12 T) [c] n= [c']:=by
     match FD P 12 T with
     | []=>exact⟨c,rfl⟩
     |none::ts=>exact⟨c,by cases ts with | nil=>rfl | cons t _=>cases t <;> rfl⟩
     |some t::ts=>
      simp only [NP]
      cases KU c with
      |true=>exact⟨.ref n,by cases ts with | nil=>rfl | cons t _=>cases t <;> rfl⟩
      |false=>exact⟨c,by cases ts with | nil=>rfl | cons t _=>cases t <;> rfl⟩
    obtain⟨c',hc'⟩:=hl
    rw [hc']at LR ⊢
    simpa using LR
   |c1::c2::cr,LR=>
    have:=congrArg List.length LR
    simp only [List.length_map,List.length_cons]at this
    match hq:NP (FD P 12 T) (c1::c2::cr) n,this with
    |_::_::_,_=>rfl
end
end Go.SX
namespace Go.SX
open Go.RowKit
section
variable{P:Program}{tr:Bool}{s:St}{look:Nat→Option SS}{ent:Nat→Option Entry}{A:List (Nat×Bool)}{nid:Nat}{o:Oper}{r:Raw}{B:Base}{ρ:Nm}{a:Act}{w:World}{K:Act→World→Prop}{Q:Exit→Act→World→Prop}
theorem Tb(c:Ctx B ρ s a w look ent A){T:TypeId}{x:Operand}(ho:o.op= .move x∨o.op= .assign x)(h:ZP P tr look A nid T x=some r)(kh: ∀ i∈r.new,s.used i=false)(hC:lr B s ρ r o a K):o.wp P a w K Q:=by
 have hr: ∀ w,(execOp a.eval o).run P w= .ok (.value (a.eval x)) w:=fun w=>by
  obtain⟨dst,op,ty,pos,after,guard⟩:=o
  rcases ho with ho | ho <;> (simp only at ho;subst ho;rfl)
 unfold ZP at h
 split at h
 ·rename_i v hv
  cases h
  obtain⟨h1,h2⟩:=c.ev hv
  obtain⟨ρ',hx,_,hp,LR,_⟩:=LM (P:=P) (tr:=tr) (T:=T) (n:=nid) (v:=v) c.hp h2 kh
  refine az (hr w) (hC ρ' _ w hx ?_ hp)
  rw [h1];exact LR.symm
 ·rename_i v hv
  cases h
  obtain⟨h1,h2⟩:=c.ev hv
  refine az (hr w) ?_
  rw [h1]
  exact lr.same rfl hC c.hp
 ·cases h
theorem XT(c:Ctx B ρ s a w look ent A){cc x y:Operand}(ho:o.op= .pick cc x y)(h:abr look A cc x y=some r)(hC:lr B s ρ r o a K):o.wp P a w K Q:=by
 obtain⟨dst,op,ty,pos,after,guard⟩:=o
 simp only at ho;subst ho
 unfold abr at h
 split at h
 ·rename_i jc cb hc
  split at h
  ·rename_i vx vy hx hy
   cases hm:BA cb vx vy with
   |none=>simp [hm]at h
   |some v=>
    simp [hm]at h;subst h
    have hcv:a.eval (.tmp jc)= .bool cb:=(c.evC hc).1
    have hyl:yl a.tmps jc=some cb:=by
     simp only [Act.eval,Array.getD_eq_getD_getElem?]at hcv
     unfold yl
     cases hq:a.tmps[jc]? with
     |none=>rw [hq]at hcv;simp [undef]at hcv
     |some u=>rw [hq]at hcv;simp at hcv;subst hcv;rfl
    refine az (u:=cond cb (a.eval x) (a.eval y)) (w':=w) ?_ ?_
    ·cases cb <;> simp [execOp,hcv,asBool]
    ·have:cond cb (a.eval x) (a.eval y)=v.conc ρ:=by
      rw [DV ρ hm]
      have hA': ∀ q∈(jc,cb)::A,yl a.tmps q.1=some q.2:=fun q hq=>by
       rcases List.mem_cons.1 hq with rfl | hq
       ·exact hyl
       ·exact c.hA q hq
      cases cb with
      |true=>simpa using TD c.hM c.hL hA' hx
      |false=>simpa using TD c.hM c.hL hA' hy
     rw [this]
     exact lr.same rfl hC c.hp
  ·cases h
 ·cases h
theorem Is(ρ:Nm)(l:List Value):(l.map Cell.val).map (Cell.conc ρ)=l:=by
 rw [List.map_map,show (Cell.conc ρ ∘ Cell.val)=id from rfl,List.map_id]
theorem Uo{l:List (Nat×Entry)}{i:Nat}{e:Entry}(h:look? l i=some e):i∈qg l:=by
 induction l with
 |nil=>simp [look?]at h
 |cons p l ih=>
  simp only [look?]at h
  simp only [qg,z6,List.mem_cons]
  cases hb:Nat.beq p.1 i with
  |true=>exact .inl (q8 hb).symm
  |false=>simp [hb]at h;exact .inr (ih h)
theorem sf{used:Nat→Bool}{l:List Nat}{i:Nat}(h:i∈l):bq used l i=true:=by simp [bq,memN_mem.2 h]
theorem Zv{used:Nat→Bool}{l:List Nat}{i:Nat}(h:i∉l)(hu:used i=false):bq used l i=false:=by
 have:memN l i=false:=by
  cases hm:memN l i with
  |false=>rfl
  |true=>exact(h (memN_mem.1 hm)).elim
 simp [bq,this,hu]
theorem Rn(c:Ctx B ρ s a w look ent A){T:TypeId}{cs:List Cell}(DQ: ∀ x∈cs,x.inU s.used)
  (hr:(execOp a.eval o).run P w= .ok (.value (.pointer (some ⟨w.heap.size,0,none⟩))) (w.alloc (.cells (cs.map (Cell.conc ρ)).toArray T)))
  (kh: ∀ i∈nid::qg (AZ P tr T (nid + 1) ⟨true,cs⟩).es,s.used i=false)
  (hC:lr B s ρ ⟨one (.ptr nid 0),(nid,.box T (AZ P tr T (nid + 1) ⟨true,cs⟩).v.cs)::(AZ P tr T (nid + 1) ⟨true,cs⟩).es,nid::qg (AZ P tr T (nid + 1) ⟨true,cs⟩).es,[]⟩ o a K):o.wp P a w K Q:=by
 obtain⟨ρ1,hx1,hm1,hp1,_,_,LR⟩:=LM (P:=P) (tr:=tr) (T:=T) (n:=nid + 1) (v:=⟨true,cs⟩) c.hp DQ fun i hi=>kh i (by simp [hi])
 have It:bq s.used (qg (AZ P tr T (nid + 1) ⟨true,cs⟩).es) nid=false:=Zv (fun hi=>by have:=abO hi;omega) (kh nid (by simp))
 have uL: ∀ x∈(AZ P tr T (nid + 1) ⟨true,cs⟩).v.cs,x.inU (bq s.used (qg (AZ P tr T (nid + 1) ⟨true,cs⟩).es)):=
  Xs (v:=⟨true,cs⟩) (fun x hx=>Cell.inU_mono gm (DQ x hx)) fun i hi=>sf hi
 obtain⟨hx2,hp2⟩:=hp1.alloc It T (AZ P tr T (nid + 1) ⟨true,cs⟩).v.cs uL
 rw [LR,ux,Vs]at hp2
 refine az hr (hC _ _ _ (hx1.trans hx2 gm) ?_ hp2)
 simp only [one,SV.conc,V1.conc,Cell.conc]
 rw [gk _ _ rfl];rfl
theorem Wi(c:Ctx B ρ s a w look ent A){T:TypeId}(ho:o.op= .alloc T)(h:Ys P tr nid T=some r)(kh: ∀ i∈r.new,s.used i=false)(hC:lr B s ρ r o a K):o.wp P a w K Q:=by
 obtain⟨dst,op,ty,pos,after,guard⟩:=o
 simp only at ho;subst ho
 unfold Ys at h
 split at h
 ·rename_i i hi
  split at h
  ·rename_i z hz
   cases h
   refine Rn c (fun x hx=> ?_) ?_ kh hC
   ·obtain⟨v,_,rfl⟩:=List.mem_map.1 hx;trivial
   ·rw [Is]
    simp [execOp,Instr.alloc,zeroValue,typeInfo,hi,hz,newVar,newRow,newObj];rfl
  ·cases h
 ·cases h
theorem Yw(c:Ctx B ρ s a w look ent A){T:TypeId}{x:Operand}(ho:o.op= .box T x)(h:acA P tr look A nid T x=some r)(kh: ∀ i∈r.new,s.used i=false)(hC:lr B s ρ r o a K):o.wp P a w K Q:=by
 obtain⟨dst,op,ty,pos,after,guard⟩:=o
 simp only at ho;subst ho
 unfold acA at h
 split at h
 ·rename_i v hv
  split at h
  ·rename_i cs DQ
   cases h
   obtain⟨h1,h2⟩:=c.ev1 hv
   refine Rn c (V1.cells?_inU h2 DQ) ?_ kh hC
   simp [execOp,Instr.box,newVar,newRow,newObj,h1,V1.cells?_conc ρ DQ];rfl
  ·cases h
 ·cases h
theorem ub(b off j:Nat):(⟨b,off,none⟩:Addr).add j=⟨b,off + j,none⟩:=by
 unfold Addr.add;split <;> simp_all
theorem Oj{T:TypeId}{d:TypeDesc}(h:P.underlying T=some d)(w:World):(isAgg T).run P w= .ok (aba d) w:=by
 unfold isAgg
 rw [Sem.run_bind,run_underlying h w]
 cases d <;> rfl
theorem Ok{T:TypeId}{off base b:Nat}{cs:List Cell}{v:V1}(hv:NJ P T off cs=some v)(hcell: ∀ j u,(cs.map (Cell.conc ρ))[j]? =some u→w.cell? ⟨b,base + j,none⟩=some u):
  (loadVar T ⟨b,base + off,none⟩).run P w= .ok (v.conc ρ) w:=by
 unfold NJ at hv
 split at hv
 ·rename_i d i hd hi
  split at hv
  ·rename_i xT
   cases hb:Nat.ble (off + i.size) cs.length with
   |false=>simp [hb]at hv
   |true=>
    simp [hb]at hv;subst hv
    have DR:=j7 hb
    have kg:(((cs.drop off).take i.size).map (Cell.conc ρ)).length=i.size:=by simp;omega
    have hl:(loadCells ⟨b,base + off,none⟩ (((cs.drop off).take i.size).map (Cell.conc ρ)).length).run P w= .ok (((cs.drop off).take i.size).map (Cell.conc ρ)).toArray w:=
     run_loadCells_list (P:=P) w _ _ fun j u hj=>by
      rw [ub,Nat.add_assoc]
      refine hcell _ _ ?_
      rw [← hj]
      simp only [List.getElem?_map,List.getElem?_take,List.getElem?_drop]
      split
      ·rfl
      ·rename_i iM
       have:=(z7.1 hj).1
       rw [kg]at this;omega
    rw [kg]at hl
    simp [loadVar,Sem.run_bind,Oj hd,xT,sizeOf,typeInfo,hi,hl,V1.conc]
  ·rename_i xT
   split at hv
   ·rename_i c hc
    cases hv
    have:w.cell? ⟨b,base + off,none⟩=some (c.conc ρ):=hcell _ _ (by simp [hc])
    simp [loadVar,Sem.run_bind,Oj hd,xT,V1.conc,this]
   ·cases hv
 ·cases hv
theorem GO{T U:TypeId}{off b:Nat}{cur:Array Value}{n:Nat}{ns:List Cell}{v:Value}{off0:Nat}(gr:wv P T off0 n ns=true)(DR:off0 + ns.length≤n→off + ns.length≤cur.size)(hv:v.cells=(ns.map (Cell.conc ρ)).toArray)(hh:w.heap[b]? =some (.cells cur U (0,0))):
  (storeVar T ⟨b,off,none⟩ v).run P w= .ok () (w.setRow b (cur.toList.take off++ns.map (Cell.conc ρ)++cur.toList.drop (off + ns.length)).toArray):=by
 unfold wv at gr
 split at gr
 ·rename_i i hi
  simp only [w5]at gr
  obtain⟨⟨h1,h2⟩,h3⟩:=gr
  have h1:=q8 h1
  have h2:=DR (j7 h2)
  have WY:=run_storeCells_at P b off U (ns.map (Cell.conc ρ)) 0 cur w hh (by simp;omega) (fun u hu=>by
   obtain⟨c,hc,rfl⟩:=List.mem_map.1 hu
   have:=List.all_eq_true.1 h3 c hc
   cases c with
   |val v=>exact this
   |ref id=>exact RC _
   |vw id z k=>exact RC _
   |_=>rfl)
  have Ba:v.cells.size=i.size:=by rw [hv];simp [h1]
  have hvl:v.cells.toList=ns.map (Cell.conc ρ):=by rw [hv]
  simp only [storeVar,sizeOf,typeInfo,program,Sem.run_bind,Sem.run,hi,Result.andThen_ok,Sem.run_pure,Ba,ne_eq,not_true_eq_false,if_false,hvl]
  rw [WY]
  simp
 ·cases gr
end
end Go.SX
namespace Go.SX
open Go.RowKit
section
variable{P:Program}{tr:Bool}{s:St}{look:Nat→Option SS}{ent:Nat→Option Entry}{A:List (Nat×Bool)}{nid:Nat}{o:Oper}{r:Raw}{B:Base}{ρ:Nm}{a:Act}{w:World}{K:Act→World→Prop}{Q:Exit→Act→World→Prop}
theorem td{b k:Nat}{arr:Array Value}{T:TypeId}{fz:Nat×Nat}(h:w.heap[b]? =some (.cells arr T fz)):w.cell? ⟨b,k,none⟩=arr[k]? :=by
 simp [World.cell?,h]
theorem VW{own:Bool}{id:Nat}{e:TypeId}{t:CTy}{xs:List (E t)}(h:(Entry.row own e t xs).holds B ρ w id)(hf: ∀ b o,ρ.mem b=some o→w.heap[b]? =some o){i:Nat}{x:E t}(hx:xs[i]? =some x):
  ∃ chunk,Rep ρ.mem t chunk x∧ ∀ j u,chunk[j]? =some u→w.cell? ⟨FX (ρ id),NS (ρ id) + i * t.size + j,none⟩=some u:=by
 cases own with
 |false=>
  rcases h with⟨_,hn⟩ | ⟨b,off,cap,arr,T,fz,h1,h2,h3,h4,h5⟩
  ·rw [hn]at hx;simp at hx
  ·refine⟨_,h5 i x hx,fun j u hj=> ?_⟩
   rw [h1]
   simp only [FX,NS]
   rw [td (hf _ _ h4)]
   simp only [List.getElem?_take,List.getElem?_drop]at hj
   split at hj
   ·simpa using hj
   ·cases hj
 |true=>
  obtain⟨cs,h1,h2,_⟩:=h
  refine⟨_,h2.2 i x hx,fun j u hj=> ?_⟩
  have iM:=qO (z:=t.size) (z7.1 hx).1
  rcases h1.2 with⟨_,hn⟩ | ⟨g,cap,cur,hv,_,hg,DR,MG,Ba,MH⟩
  ·have:=(z7.1 hx).1;omega
  ·rw [hv]
   simp only [FX,NS,Nat.zero_add]
   rw [td hg]
   rw [← MH]at hj
   simp only [List.getElem?_take,List.getElem?_drop]at hj
   split at hj
   ·split at hj
    ·simpa using hj
    ·cases hj
   ·cases hj
theorem LO{α:Type}{xs:List α}{i:Nat}{d:α}(h:i < xs.length):xs[i]? =some (xs[i]?.getD d):=by
 rw [List.getElem?_eq_getElem h];rfl
theorem Fl{id z i off:Nat}:(Cell.el id z i off).conc ρ= .pointer (some ⟨FX (ρ id),NS (ρ id) + (i * z + off),none⟩):=rfl
theorem Rw{id off:Nat}:(Cell.ptr id off).conc ρ= .pointer (some ⟨FX (ρ id),off,none⟩):=rfl
theorem aau{e:TypeId}{z n:Nat}{v:Value}{cs:List Value}(h:xZ w e z v n cs){k:Nat}(hk:k < n):
  ∃ g cap,v= .slice (some ⟨g,0,none⟩) n cap∧ ∀ j u,((cs.drop (k * z)).take z)[j]? =some u→w.cell? ⟨g,k * z + j,none⟩=some u:=by
 rcases h.2 with⟨_,hn⟩ | ⟨g,cap,cur,hv,h0,hg,DR,MG,Ba,MH⟩
 ·omega
 ·refine⟨g,cap,hv,fun j u hj=> ?_⟩
  rw [td hg,← Array.getElem?_toList]
  rw [List.getElem?_take]at hj
  split at hj
  ·rename_i hjz
   rw [List.getElem?_drop,← MH,List.getElem?_take]at hj
   split at hj
   ·exact hj
   ·cases hj
  ·cases hj
theorem XM(c:Ctx B ρ s a w look ent A){T:TypeId}{x:Operand}(ho:o.op= .load T x)(h:abh P look ent A nid T x=some r)(kh: ∀ i∈r.new,s.used i=false)(ec: ∀ b∈r.nd,b=true)(hC:lr B s ρ r o a K):o.wp P a w K Q:=by
 obtain⟨dst,op,ty,pos,after,guard⟩:=o
 simp only at ho;subst ho
 unfold abh at h
 split at h
 ·rename_i id off hx
  split at h
  ·rename_i U cs he
   split at h
   ·rename_i v hv
    cases h
    obtain⟨⟨b,h1,h2,_⟩,_,_⟩:=c.hp.he _ _ (c.hE _ _ he)
    have hr:=Ok (P:=P) (ρ:=ρ) (base:=0) (b:=b) (w:=w) hv fun j u hj=>by
     rw [Nat.zero_add,td h2];simpa using hj
    rw [Nat.zero_add]at hr
    refine az (u:=v.conc ρ) (w':=w) ?_ (lr.same (v:= .one v) rfl hC c.hp)
    have:=(c.evC hx).1
    rw [Rw,h1]at this
    simp only [FX]at this
    simp [execOp,Instr.loadAt,this,Instr.sureAddr,hr]
   ·cases h
  ·cases h
 ·rename_i id z i off hx
  split at h
  ·rename_i own e t xs he
   cases hz:Nat.beq z t.size with
   |false=>simp [hz]at h
   |true=>
    have:=q8 hz;subst this
    simp only [hz,cond_true]at h
    split at h
    ·rename_i v hv
     cases h
     have hi:i < xs.length:=by simpa using ec (decide (i < xs.length)) (by simp)
     obtain⟨h1,iU,_⟩:=c.hp.he _ _ (c.hE _ _ he)
     obtain⟨chunk,hc1,hc2⟩:=VW h1 c.hp.hf.dat (LO (d:=tC t) hi)
     obtain⟨ρ',m',f',k',e',r'⟩:=Mc t chunk _ nid ρ hc1
     have Cc: ∀ id,s.used id=true→ρ' id=ρ id:=fun id iU=>k' id (by
      have: ¬ (nid≤id∧id < nid + t.nsl):=fun hh=>by
       have:=kh id (memN_mem.1 (mU.2 hh))
       rw [this]at iU;cases iU
      omega)
     obtain⟨hX,hp⟩:=c.hp.names (es:=Co t (xs[i]?.getD (tC t)) nid) (new:=aK nid t.nsl) Cc m' (hfp:=fun id _ _=>by rw [f']) fun id e he=>by
      obtain⟨h0,h3,h4⟩:=r' id e he
      rcases h0 with rfl | ⟨e0,t0,ys,rfl,hr⟩
      ·exact⟨trivial,sf (memN_mem.1 (mU.2 ⟨h3,h4⟩)),trivial,rfl⟩
      ·exact⟨by simp only [Entry.holds];rw [m'];exact hr,sf (memN_mem.1 (mU.2 ⟨h3,h4⟩)),trivial,rfl⟩
     have hr:=Ok (P:=P) (ρ:=ρ') (base:=NS (ρ id) + i * t.size) (b:=FX (ρ id)) (w:=w) hv fun j u hj=>by
      rw [← e']at hj;exact hc2 j u hj
     refine az (u:=v.conc ρ') (w':=w) ?_ (hC ρ' _ w hX rfl hp)
     have:=(c.evC hx).1
     rw [Fl,← Nat.add_assoc]at this
     simp [execOp,Instr.loadAt,this,Instr.sureAddr,hr]
    ·cases h
  ·rename_i e t xs he
   cases hz:Nat.beq z t.size with
   |false=>simp [hz]at h
   |true=>
    have:=q8 hz;subst this
    simp only [hz,cond_true]at h
    split at h
    ·rename_i v hv
     obtain⟨⟨cs,Ls,q1,q2,_⟩,iU,_⟩:=c.hp.he _ _ (c.hE _ _ he)
     have pN:=(c.evC hx).1
     rw [Fl,← Nat.add_assoc]at pN
     have main:i < xs.length→ ∀ ρ':Nm,(cs.drop (i * t.size)).take t.size=(qn t (xs[i]?.getD (tC t)) nid).map (Cell.conc ρ')→(execOp a.eval ⟨dst,.load T x,ty,pos,after,guard⟩).run P w= .ok (.value (v.conc ρ')) w:=by
      intro hi ρ' WX
      obtain⟨g,cap,hg,hc2⟩:=aau q1 hi
      have hr:=Ok (P:=P) (ρ:=ρ') (base:=NS (ρ id) + i * t.size) (b:=FX (ρ id)) (w:=w) hv fun j u hj=>by
       rw [← WX]at hj
       rw [hg];simp only [NS,FX,Nat.zero_add]
       exact hc2 j u hj
      simp [execOp,Instr.loadAt,pN,Instr.sureAddr,hr]
     split at h
     ·rename_i vs VJ
      cases h
      have hi:i < xs.length:=by simpa using ec (decide (i < xs.length)) (by simp)
      obtain⟨l,hl⟩: ∃ l,Ls[i]? =some l:=⟨_,List.getElem?_eq_getElem (by rw [q2.1];exact hi)⟩
      have hd:=q2.2.2.1 i _ l (fun _ _ h=>by cases h) (LO (d:=tC t) hi) hl
      obtain⟨ρ1,_,_,_,e1,_⟩:=JF t _ _ l nid ρ hd
      have hv1:v.conc ρ1=v.conc ρ:=by
       have:=Ie ρ VJ
       have h2:=Ie ρ1 VJ
       simp only [V1.conc]
       obtain⟨g,vcs⟩:=v
       cases g with
       |true=>simp only [this,h2]
       |false=>
        match vcs,this,h2 with
        | [],_,_=>rfl
        | [c0],h3,h4=>simp only [z6,List.map_nil]at h3 h4;rw [← h3]at h4;simpa using h4
        |_::_::_,_,_=>rfl
      refine az (u:=v.conc ρ) (w':=w) ?_ (lr.same (v:= .one v) rfl hC c.hp)
      rw [← hv1]
      exact main hi ρ1 e1
     ·cases h
      have hi:i < xs.length:=by simpa using ec (decide (i < xs.length)) (by simp)
      obtain⟨ρ',hX,hm,hp⟩:=c.hp.treeOpen (c.hE _ _ he) (LO (d:=tC t) hi) (nid:=nid) (fun j hj=>kh j hj)
      refine az (u:=v.conc ρ') (w':=w) ?_ (hC ρ' _ w hX rfl hp)
      obtain⟨⟨cs',Ls',p1,p2,_⟩,_,_⟩:=hp.he id (.tree e t xs (some (i,qn t (xs[i]?.getD (tC t)) nid))) (by simp [be,look?])
      have Yo:ρ' id=ρ id:=hX.nm id iU
      rw [Yo]at p1
      obtain⟨_,_,p3⟩:=p2.2.1 i _ rfl
      have DQ:cs'=cs:=Sm p1 q1
      subst DQ
      exact main hi ρ' p3
    ·cases h
  ·cases h
 ·cases h
theorem RY(c:Ctx B ρ s a w look ent A){T:TypeId}{x:Operand}{f:Nat}(ho:o.op= .fieldAddr T x f)(h:Qk P look A T x f=some r)(hC:lr B s ρ r o a K):o.wp P a w K Q:=by
 obtain⟨dst,op,ty,pos,after,guard⟩:=o
 simp only at ho;subst ho
 have kn: ∀ {d b off:Nat},Ue P T f=some d→a.eval x= .pointer (some ⟨b,off,none⟩)→ ∀ w,(execOp a.eval ⟨dst,.fieldAddr T x f,ty,pos,after,guard⟩).run P w= .ok (.value (.pointer (some ⟨b,off + d,none⟩))) w:=by
  intro d b off hd hx w
  unfold Ue at hd
  split at hd
  ·rename_i fs hfs
   split at hd
   ·rename_i fd hfd
    split at hd
    ·rename_i i hi
     cases hz:Nat.beq i.size 0 with
     |true=>simp [hz]at hd
     |false=>
      simp [hz]at hd;subst hd
      have Hy:i.size≠0:=fun h0=>by rw [h0]at hz;cases hz
      simp [execOp,Instr.fieldAt,run_underlying hfs,hfd,hx,Instr.sureAddr,fieldPlace,sizeOf,typeInfo,hi,Hy,ub]
    ·cases hd
   ·cases hd
  ·cases hd
 unfold Qk at h
 split at h
 ·rename_i id off d hx hd
  cases h
  have:=(c.evC hx).1
  refine az (kn hd this w) (lr.same (v:=one (.ptr id (off + d))) rfl hC c.hp)
 ·rename_i id z i off d hx hd
  cases h
  have:=(c.evC hx).1
  refine az (kn hd this w) ?_
  have:=lr.same (v:=one (.el id z i (off + d))) rfl hC c.hp
  simp only [one,SV.conc,V1.conc,Fl]at this
  rwa [show i * z + (off + d)=i * z + off + d from (Nat.add_assoc _ _ _).symm,← Nat.add_assoc]at this
 ·cases h
theorem UT{T:TypeId}{off:Nat}{cs:List Cell}{v:V1}(hv:NJ P T off cs=some v):(part T (cs.map (Cell.conc ρ)).toArray off).run P w= .ok (v.conc ρ) w:=by
 unfold NJ at hv
 split at hv
 ·rename_i d i hd hi
  split at hv
  ·rename_i xT
   cases hb:Nat.ble (off + i.size) cs.length with
   |false=>simp [hb]at hv
   |true=>
    simp [hb]at hv;subst hv
    simp [part,Sem.run_bind,Oj hd,xT,sizeOf,typeInfo,hi,V1.conc,List.extract_eq_take_drop,List.map_take,List.map_drop]
  ·rename_i xT
   split at hv
   ·rename_i c hc
    cases hv
    simp [part,Sem.run_bind,Oj hd,xT,V1.conc,hc]
   ·cases hv
 ·cases hv
theorem Wu(c:Ctx B ρ s a w look ent A){T:TypeId}{x:Operand}{f:Nat}(ho:o.op= .field T x f)(h:YI P look A T x f=some r)(hC:lr B s ρ r o a K):o.wp P a w K Q:=by
 obtain⟨dst,op,ty,pos,after,guard⟩:=o
 simp only at ho;subst ho
 unfold YI at h
 split at h
 ·rename_i cs fs hx hfs
  split at h
  ·rename_i fd hfd
   split at h
   ·rename_i v hv
    cases h
    have:=(c.ev1 hx).1
    refine az (u:=v.conc ρ) (w':=w) ?_ (lr.same (v:= .one v) rfl hC c.hp)
    have hp:=UT (ρ:=ρ) (w:=w) hv
    simp [execOp,Instr.field,run_underlying hfs,hfd,this,V1.conc,asAgg,hp]
   ·cases h
  ·cases h
 ·cases h
theorem Tq(c:Ctx B ρ s a w look ent A){x:Operand}(ho:o.op= .nilCheck x)(h:Si look A x=some r)(hC:lr B s ρ r o a K):o.wp P a w K Q:=by
 obtain⟨dst,op,ty,pos,after,guard⟩:=o
 simp only at ho;subst ho
 unfold Si at h
 split at h
 ·cases h
 ·cases h
 ·cases h
 ·rename_i cc hn1 hn2 hn3 hx
  cases h
  have:=(c.evC hx).1
  refine az (u:=cc.conc ρ) (w':=w) ?_ (lr.same (v:=one cc) rfl hC c.hp)
  cases cc with
  |val v=>exact(hn1 v rfl).elim
  |ref id=>exact(hn2 id rfl).elim
  |vw id z k=>exact(hn3 id z k rfl).elim
  |_=>simp [execOp,this,Cell.conc]
 ·cases h
theorem Fe{k:IntKind}{i:Int}:(asIntOf (.int k i)).run P w= .ok (k,i) w:=rfl
theorem Sd(c:Ctx B ρ s a w look ent A){T:TypeId}{x ix:Operand}(ho:o.op= .indexAddr T x ix)(h:Qn P look ent A T x ix=some r)(ec: ∀ b∈r.nd,b=true)(hC:lr B s ρ r o a K):o.wp P a w K Q:=by
 obtain⟨dst,op,ty,pos,after,guard⟩:=o
 simp only at ho;subst ho
 unfold Qn at h
 split at h
 ·rename_i id i hx hi
  split at h
  ·rename_i own e t xs he
   cases gr:uw P T t with
   |false=>simp [gr]at h
   |true=>
    simp [gr]at h;subst h
    unfold uw at gr
    split at gr
    ·rename_i e' hT
     split at gr
     ·rename_i inf rR
      have Ba:=q8 gr
      have h0:0≤i:=by simpa using ec (decide (0≤i)) (by simp)
      have h1:i < xs.length:=by simpa using ec (decide (i < xs.length)) (by simp)
      have pN:=(c.evC hx).1
      obtain⟨k,hiv⟩:=c.evI hi
      obtain⟨hh,_,_⟩:=c.hp.he _ _ (c.hE _ _ he)
      have kg: ∃ b off cap,ρ id= .slice (some ⟨b,off,none⟩) xs.length cap:=by
       cases own with
       |false=>
        rcases hh with⟨_,hn⟩ | ⟨b,off,cap,arr,T',fz,h4,_⟩
        ·rw [hn]at h1;simp at h1;omega
        ·exact⟨b,off,cap,h4⟩
       |true=>
        obtain⟨cs,h4,_⟩:=hh
        rcases h4.2 with⟨_,hn⟩ | ⟨g,cap,cur,hv,_⟩
        ·rw [hn]at h1;simp at h1;omega
        ·exact⟨g,0,cap,hv⟩
      obtain⟨b,off,cap,hv⟩:=kg
      have LR:=lr.same (v:=one (.el id t.size i.toNat 0)) rfl hC c.hp
      simp only [one,SV.conc,V1.conc,Fl,hv,FX,NS,Nat.add_zero]at LR
      refine az (w':=w) ?_ LR
      simp only [Cell.conc,hv]at pN
      simp [execOp,Instr.indexAt,pN,hiv,run_underlying hT,Fe,h0,h1,sizeOf,typeInfo,rR,ub,Ba]
     ·cases gr
    ·cases gr
  ·rename_i e t xs he
   cases gr:uw P T t with
   |false=>simp [gr]at h
   |true=>
    simp [gr]at h;subst h
    unfold uw at gr
    split at gr
    ·rename_i e' hT
     split at gr
     ·rename_i inf rR
      have Ba:=q8 gr
      have h0:0≤i:=by simpa using ec (decide (0≤i)) (by simp)
      have h1:i < xs.length:=by simpa using ec (decide (i < xs.length)) (by simp)
      have pN:=(c.evC hx).1
      obtain⟨k,hiv⟩:=c.evI hi
      obtain⟨hh,_,_⟩:=c.hp.he _ _ (c.hE _ _ he)
      have kg: ∃ b off cap,ρ id= .slice (some ⟨b,off,none⟩) xs.length cap:=by
       obtain⟨cs,Ls,h4,_⟩:=hh
       rcases h4.2 with⟨_,hn⟩ | ⟨g,cap,cur,hv,_⟩
       ·rw [hn]at h1;simp at h1;omega
       ·exact⟨g,0,cap,hv⟩
      obtain⟨b,off,cap,hv⟩:=kg
      have LR:=lr.same (v:=one (.el id t.size i.toNat 0)) rfl hC c.hp
      simp only [one,SV.conc,V1.conc,Fl,hv,FX,NS,Nat.add_zero]at LR
      refine az (w':=w) ?_ LR
      simp only [Cell.conc,hv]at pN
      simp [execOp,Instr.indexAt,pN,hiv,run_underlying hT,Fe,h0,h1,sizeOf,typeInfo,rR,ub,Ba]
     ·cases gr
    ·cases gr
  ·rename_i e t xs he
   cases gr:uw P T t with
   |false=>simp [gr]at h
   |true=>
    simp [gr]at h;subst h
    unfold uw at gr
    split at gr
    ·rename_i e' hT
     split at gr
     ·rename_i inf rR
      have Ba:=q8 gr
      have h0:0≤i:=by simpa using ec (decide (0≤i)) (by simp)
      have h1:i < xs.length:=by simpa using ec (decide (i < xs.length)) (by simp)
      have pN:=(c.evC hx).1
      obtain⟨k,hiv⟩:=c.evI hi
      obtain⟨hh,_,_⟩:=c.hp.he _ _ (c.hE _ _ he)
      have kg: ∃ b off cap,ρ id= .slice (some ⟨b,off,none⟩) xs.length cap:=by
       obtain⟨_,hh,_⟩:=hh
       rcases hh with⟨_,hn⟩ | ⟨b,off,cap,arr,T',fz,h4,_⟩
       ·rw [hn]at h1;simp at h1;omega
       ·exact⟨b,off,cap,h4⟩
      obtain⟨b,off,cap,hv⟩:=kg
      have LR:=lr.same (v:=one (.el id t.size i.toNat 0)) rfl hC c.hp
      simp only [one,SV.conc,V1.conc,Fl,hv,FX,NS,Nat.add_zero]at LR
      refine az (w':=w) ?_ LR
      simp only [Cell.conc,hv]at pN
      simp [execOp,Instr.indexAt,pN,hiv,run_underlying hT,Fe,h0,h1,sizeOf,typeInfo,rR,ub,Ba]
     ·cases gr
    ·cases gr
  ·cases h
 ·rename_i id off i hx hi
  split at h
  ·rename_i n e hT
   split at h
   ·rename_i inf rR
    cases h
    have h0:0≤i:=by simpa using ec (decide (0≤i)) (by simp)
    have h1:i < n:=by simpa using ec (decide (i < n)) (by simp)
    have pN:=(c.evC hx).1
    obtain⟨k,hiv⟩:=c.evI hi
    refine az (w':=w) ?_ (lr.same (v:=one (.ptr id (off + i.toNat * inf.size))) rfl hC c.hp)
    simp only [Cell.conc]at pN
    simp [execOp,Instr.indexAt,pN,hiv,run_underlying hT,Fe,h0,h1,sizeOf,typeInfo,rR,ub,Instr.sureAddr,one,SV.conc,V1.conc,Cell.conc]
   ·cases h
  ·cases h
 ·cases h
theorem WC(c:Ctx B ρ s a w look ent A){T:TypeId}{x ix:Operand}(ho:o.op= .index T x ix)(h:YQ P look A T x ix=some r)(ec: ∀ b∈r.nd,b=true)(hC:lr B s ρ r o a K):o.wp P a w K Q:=by
 obtain⟨dst,op,ty,pos,after,guard⟩:=o
 simp only at ho;subst ho
 unfold YQ at h
 split at h
 ·rename_i str i hx hi hT
  cases h
  have h0:0≤i:=by simpa using ec (decide (0≤i)) (by simp)
  have h1:i < str.size:=by simpa using ec (decide (i < str.size)) (by simp)
  have pN:=(c.evC hx).1
  obtain⟨k,hiv⟩:=c.evI hi
  refine az (w':=w) ?_ (lr.same (v:=one (.val (.int .u8 (str[i.toNat]?.getD 0).toNat))) rfl hC c.hp)
  simp only [Cell.conc]at pN
  have iM:i.toNat < str.size:=by omega
  simp [execOp,Instr.index,pN,hiv,run_underlying hT,Fe,h0,iM,one,SV.conc,V1.conc,Cell.conc]
 ·cases h
theorem YU(c:Ctx B ρ s a w look ent A){cl:Call}{x:Operand}(ho:o.op= .call cl)(hb:cl.callee= .builtin .len)(uY:cl.args.toList= [x])(h:acM P look ent A cl.argTypes x=some r)(hC:lr B s ρ r o a K):o.wp P a w K Q:=by
 obtain⟨dst,op,ty,pos,after,guard⟩:=o
 simp only at ho;subst ho
 unfold acM at h
 split at h
 ·rename_i id hx
  split at h
  ·rename_i own e t xs he
   cases gr:Il P cl.argTypes[0]? with
   |false=>simp [gr]at h
   |true=>
    simp only [gr,cond_true]at h
    cases h
    have pN:=(c.evC hx).1
    obtain⟨hh,_,_⟩:=c.hp.he _ _ (c.hE _ _ he)
    have kg: ∃ b cap,ρ id= .slice b xs.length cap:=by
     cases own with
     |false=>
      rcases hh with⟨h4,hn⟩ | ⟨b,off,cap,arr,T',fz,h4,_⟩
      ·obtain⟨b0,hb0⟩:=AO h4;rw [hn];exact⟨b0,0,hb0⟩
      ·exact⟨_,_,h4⟩
     |true=>
      obtain⟨cs,h4,_⟩:=hh
      rcases h4.2 with⟨hv,hn⟩ | ⟨g,cap,cur,hv,_⟩
      ·obtain⟨b0,hb0⟩:=AO hv;rw [hn];exact⟨b0,0,hb0⟩
      ·exact⟨_,_,hv⟩
    obtain⟨b,cap,hv⟩:=kg
    refine az (w':=w) ?_ (lr.same (v:=one (.val (.int .i64 xs.length))) rfl hC c.hp)
    simp only [Cell.conc,hv]at pN
    have xT:cl.args= #[x]:=by rw [← w9 (xs:=cl.args),uY]
    unfold Il at gr
    split at gr
    ·rename_i t0 ht0
     split at gr
     ·rename_i e0 hT
      simp [execOp,resolve,hb,invoke,builtin,xT,Builtin.len_,pN,one,SV.conc,V1.conc,Cell.conc,goInt,ht0,run_underlying hT]
     ·cases gr
    ·cases gr
  ·rename_i e t xs ho he
   cases gr:Il P cl.argTypes[0]? with
   |false=>simp [gr]at h
   |true=>
    simp only [gr,cond_true]at h
    cases h
    have pN:=(c.evC hx).1
    obtain⟨hh,_,_⟩:=c.hp.he _ _ (c.hE _ _ he)
    have kg: ∃ b cap,ρ id= .slice b xs.length cap:=by
     obtain⟨cs,Ls,h4,_⟩:=hh
     rcases h4.2 with⟨hv,hn⟩ | ⟨g,cap,cur,hv,_⟩
     ·obtain⟨b0,hb0⟩:=AO hv;rw [hn];exact⟨b0,0,hb0⟩
     ·exact⟨_,_,hv⟩
    obtain⟨b,cap,hv⟩:=kg
    refine az (w':=w) ?_ (lr.same (v:=one (.val (.int .i64 xs.length))) rfl hC c.hp)
    simp only [Cell.conc,hv]at pN
    have xT:cl.args= #[x]:=by rw [← w9 (xs:=cl.args),uY]
    unfold Il at gr
    split at gr
    ·rename_i t0 ht0
     split at gr
     ·rename_i e0 hT
      simp [execOp,resolve,hb,invoke,builtin,xT,Builtin.len_,pN,one,SV.conc,V1.conc,Cell.conc,goInt,ht0,run_underlying hT]
     ·cases gr
    ·cases gr
  ·rename_i e t xs he
   cases gr:Il P cl.argTypes[0]? with
   |false=>simp [gr]at h
   |true=>
    simp only [gr,cond_true]at h
    cases h
    have pN:=(c.evC hx).1
    obtain⟨hh,_,_⟩:=c.hp.he _ _ (c.hE _ _ he)
    have kg: ∃ b cap,ρ id= .slice b xs.length cap:=by
     obtain⟨_,hh,_⟩:=hh
     rcases hh with⟨h4,hn⟩ | ⟨b,off,cap,arr,T',fz,h4,_⟩
     ·obtain⟨b0,hb0⟩:=AO h4;rw [hn];exact⟨b0,0,hb0⟩
     ·exact⟨_,_,h4⟩
    obtain⟨b,cap,hv⟩:=kg
    refine az (w':=w) ?_ (lr.same (v:=one (.val (.int .i64 xs.length))) rfl hC c.hp)
    simp only [Cell.conc,hv]at pN
    have xT:cl.args= #[x]:=by rw [← w9 (xs:=cl.args),uY]
    unfold Il at gr
    split at gr
    ·rename_i t0 ht0
     split at gr
     ·rename_i e0 hT
      simp [execOp,resolve,hb,invoke,builtin,xT,Builtin.len_,pN,one,SV.conc,V1.conc,Cell.conc,goInt,ht0,run_underlying hT]
     ·cases gr
    ·cases gr
  ·cases h
 ·cases h
theorem YC(c:Ctx B ρ s a w look ent A){bop:BinOp}{T T':TypeId}{x y:Operand}(ho:o.op= .binOp bop T x y T')(h:acC look A bop x y=some r)(ec: ∀ b∈r.nd,b=true)(hC:lr B s ρ r o a K):o.wp P a w K Q:=by
 obtain⟨dst,op,ty,pos,after,guard⟩:=o
 simp only at ho;subst ho
 unfold acC at h
 split at h
 ·rename_i k i k' j hx hy
  split at h
  ·rename_i hk
   subst hk
   cases h
   have hz:j≠0:=by simpa using ec (decide (j≠0)) (by simp)
   have pN:=(c.evC hx).1
   have Dh:=(c.evC hy).1
   simp only [Cell.conc]at pN Dh
   refine az (w':=w) ?_ (lr.same (v:=one (.val (.int k (k.wrap (i.tdiv j))))) rfl hC c.hp)
   simp [execOp,eqGuard,binOp,pN,Dh,Op.intDiv,hz,one,SV.conc,V1.conc,Cell.conc]
  ·cases h
 ·rename_i k i k' j hx hy
  split at h
  ·rename_i hk
   subst hk
   cases h
   have hz:j≠0:=by simpa using ec (decide (j≠0)) (by simp)
   have pN:=(c.evC hx).1
   have Dh:=(c.evC hy).1
   simp only [Cell.conc]at pN Dh
   refine az (w':=w) ?_ (lr.same (v:=one (.val (.int k (i.tmod j)))) rfl hC c.hp)
   simp [execOp,eqGuard,binOp,pN,Dh,Op.intDiv,hz,one,SV.conc,V1.conc,Cell.conc]
  ·cases h
 ·rename_i k i k' j hx hy
  cases h
  have hz:0≤j:=by simpa using ec (decide (0≤j)) (by simp)
  have pN:=(c.evC hx).1
  have Dh:=(c.evC hy).1
  simp only [Cell.conc]at pN Dh
  refine az (w':=w) ?_ (lr.same (v:=one (.val (.int k (k.wrap (i * 2 ^ (min j.toNat k.bits)))))) rfl hC c.hp)
  simp [execOp,eqGuard,binOp,pN,Dh,Op.shift,show ¬ j < 0 by omega,one,SV.conc,V1.conc,Cell.conc]
 ·rename_i k i k' j hx hy
  cases h
  have hz:0≤j:=by simpa using ec (decide (0≤j)) (by simp)
  have pN:=(c.evC hx).1
  have Dh:=(c.evC hy).1
  simp only [Cell.conc]at pN Dh
  refine az (w':=w) ?_ (lr.same (v:=one (.val (.int k (i.fdiv (2 ^ (min j.toNat k.bits)))))) rfl hC c.hp)
  simp [execOp,eqGuard,binOp,pN,Dh,Op.shift,show ¬ j < 0 by omega,one,SV.conc,V1.conc,Cell.conc]
 ·cases h
end
end Go.SX
namespace Go.SX
open Go.RowKit
section
variable{P:Program}{tr:Bool}{s:St}{look:Nat→Option SS}{ent:Nat→Option Entry}{A:List (Nat×Bool)}{nid:Nat}{o:Oper}{r:Raw}{B:Base}{ρ:Nm}{a:Act}{w:World}{K:Act→World→Prop}{Q:Exit→Act→World→Prop}
theorem rD(t ty e:TypeId)(i:TypeInfo)(z:Value)(size bytes:Nat)(ht:P.underlying t=some (.slice e))(hi:P.info? e=some i)(hz:i.zero=some z)
  (hsize:i.size=size) (hby:i.bytes=bytes) (hzs:z.cells.size=size) (Ba:0 < size)
  (v:Value) (n:Nat) (xs:List Value) (nQ:xZ w e size v n xs)
  (a:Addr) (m c:Nat) (news:List Value) (hl:news.length=m * size) (hnews: ∀ j u,news[j]? =some u→w.cell? (a.add j)=some u) (h1: ∀ u∈news,u.oneCell'=true)
  (h63:n + m≤maxLen) (hbytes:(n + m) * bytes≤140737488355328):
  ∃ v' w',(Builtin.append_ #[t,t] ty #[v,.slice (some a) m c]).run P w= .ok v' w'∧xZ w' e size v' (n + m) (xs++news)∧Chg w w' (fun k=>k∈fZ v)∧
   (∀ b∈fZ v',w.heap.size≤b∨b∈fZ v):=by
 rcases ZT nQ with⟨hz0,rfl,rfl⟩ | ⟨nQ,g0,cap0,hv0,hc0⟩
 ·by_cases hm:m=0
  ·subst hm
   have hn:news= []:=List.length_eq_zero_iff.1 (by rw [hl,Nat.zero_mul])
   subst hn
   rcases hz0 with rfl | ⟨b,rfl⟩
   ·obtain⟨v',w',hr,h2,h3,h4⟩:=run_append_own (P:=P) w 0 t ty e i z size bytes ht hi hz hsize hby hzs Ba (.slice none 0 0) 0 [] (World.ownsRow_nil _ _ _ _) a 0 c [] hl hnews h1 h63 hbytes (Nat.zero_le _)
    refine⟨v',w',hr,Fw h2,⟨h3.os,h3.tape,h3.output,h3.size,fun k hk _=>h3.block k hk (by simp [Value.ownBlock])⟩,fun b hb=> ?_⟩
    rw [h4.2 ⟨rfl,rfl⟩]at hb;cases hb
   ·refine⟨_,w,?_,by simpa using nQ,Chg.refl _ _,fun b hb=> .inr hb⟩
    have hfc:=run_firstCells_some (P:=P) w i.size 0 a 0 c [] (by simp) hnews
    simp [Builtin.append_,run_underlying ht,sizeOf,typeInfo,hi,Builtin.lenOf,hfc,storeCells]
  ·rcases hz0 with rfl | ⟨b,rfl⟩
   ·obtain⟨v',w',hr,h2,h3,_⟩:=run_append_own (P:=P) w w.heap.size t ty e i z size bytes ht hi hz hsize hby hzs Ba (.slice none 0 0) 0 [] (World.ownsRow_nil _ _ _ _) a m c news hl hnews h1 h63 hbytes (Nat.le_refl _)
    refine⟨v',w',hr,Fw h2,⟨h3.os,h3.tape,h3.output,h3.size,fun k hk _=>h3.block k hk (by simp [Value.ownBlock])⟩,fun b' hb'=> ?_⟩
    rcases h2.2 with⟨rfl,_⟩ | ⟨g,cap,cur,rfl,hg,_⟩
    ·cases hb'
    ·have:=Hv hb'
     subst this;exact .inl hg
   ·obtain⟨v',w',hr,h2,h3⟩:=run_append_arg_grows (P:=P) w t ty e i z size bytes ht hi hz hsize hby hzs Ba b 0 0 [] (by simp) (fun j u hj=>by simp at hj) a m c news hl hnews (by omega) h63 hbytes
    refine⟨v',w',hr,Fw h2,⟨h3.os,h3.tape,h3.output,h3.size,fun k hk _=>h3.block k hk (by simp)⟩,fun b' hb'=> ?_⟩
    rcases h2.2 with⟨rfl,_⟩ | ⟨g,cap,cur,rfl,hg,_⟩
    ·cases hb'
    ·have:=Hv hb'
     subst this;exact .inl hg
 obtain⟨v',w',hr,h2,h3,h4⟩:=run_append_own (P:=P) w 0 t ty e i z size bytes ht hi hz hsize hby hzs Ba v n xs nQ a m c news hl hnews h1 h63 hbytes (Nat.zero_le _)
 refine⟨v',w',hr,Fw h2,Chg.own h3 (fun g hg=>by rw [hv0]at hg ⊢;simp only [Value.ownBlock,q9]at hg;rw [pO hc0,← hg];simp),?_⟩
 subst hsize;subst hby
 have hsmall:n + m≤9223372036854775807:=by simp only [maxLen]at h63;omega
 rcases nQ.2 with⟨rfl,rfl⟩ | ⟨g,cap,cur,rfl,hbg,hg,hnc,MG,DQ,htake⟩
 ·cases hv0
 ·by_cases hroom:n + m≤cap
  ·obtain⟨_,hr',_⟩:=run_append_fits (P:=P) w 0 t ty e i i.size ht hi rfl g n cap xs nQ a m c news hl hnews h1 hroom
   rw [hr']at hr
   cases hr
   intro b hb;exact .inr hb
  ·have holds: ∀ j u,xs[j]? =some u→w.cell? ((⟨g,0,none⟩:Addr).add j)=some u:=nQ.cells (g:=g) rfl
   have hr':=run_append_grow (P:=P) w t ty e i z ht hi hz ⟨g,0,none⟩ n cap xs nQ.1 holds a m c news hl hnews (by omega) (by omega) (growslice_fits (by omega) hbytes)
   rw [hr']at hr
   cases hr
   intro b hb
   left
   simp only [fZ]at hb
   revert hb
   generalize Nat.beq _ 0=q
   cases q with
   |true=>intro hb;cases hb
   |false=>intro hb;simp only [cond_false,j8]at hb;subst hb;exact Nat.le_refl _
theorem AE(t ty e:TypeId)(i:TypeInfo)(size:Nat)(ht:P.underlying t=some (.slice e))(hi:P.info? e=some i)(v:Value)(n:Nat)(xs:List Value)(nQ:xZ w e size v n xs):
  (Builtin.append_ #[t,t] ty #[v,.slice none 0 0]).run P w= .ok v w:=by
 rcases ZT nQ with⟨hz,rfl,rfl⟩ | ⟨nQ,_⟩
 ·rcases hz with rfl | ⟨b,rfl⟩
  ·exact run_append_owned_none (P:=P) w 0 t ty e i size ht hi _ 0 [] (World.ownsRow_nil _ _ _ _)
  ·simp [Builtin.append_,run_underlying ht,sizeOf,typeInfo,hi,Builtin.lenOf,Builtin.firstCells,storeCells]
 ·exact run_append_owned_none (P:=P) w 0 t ty e i size ht hi v n xs nQ
theorem iT.cell_one{H:Nat→Option Obj}{t:CTy}{cs:List Value}{xs:List (E t)}(h:iT H t cs xs): ∀ u∈cs,u.oneCell'=true:=by
 intro u hu
 obtain⟨j,hj⟩:=List.mem_iff_getElem?.1 hu
 have iM:=(z7.1 hj).1
 have hp:=rE t
 rw [h.1]at iM
 have hi:j / t.size < xs.length:=Nat.div_lt_of_lt_mul (by rw [Nat.mul_comm];exact iM)
 refine Rep.one t _ _ (h.2 _ _ (List.getElem?_eq_getElem hi)) u ?_
 refine List.mem_iff_getElem?.2 ⟨j % t.size,?_⟩
 rw [List.getElem?_take,if_pos (Nat.mod_lt _ hp),List.getElem?_drop,Nat.mul_comm,Nat.div_add_mod]
 exact hj
theorem GN{own:Bool}{id:Nat}{e:TypeId}{t:CTy}{xs:List (E t)}(h:(Entry.row own e t xs).holds B ρ w id)(hf: ∀ b o,ρ.mem b=some o→w.heap[b]? =some o):
  (PQ (ρ id)∧xs= [])∨ ∃ b off cap news,ρ id= .slice (some ⟨b,off,none⟩) xs.length cap∧iT ρ.mem t news xs∧xs.length≤cap∧cap≤maxLen∧
   (∀ j u,news[j]? =some u→w.cell? ((⟨b,off,none⟩:Addr).add j)=some u):=by
 cases own with
 |false=>
  rcases BQ.cells hf h with h | ⟨b,off,cap,arr,T,fz,h1,h2,h3,h4,_,h5⟩
  ·exact .inl h
  ·right
   rcases h5 with rfl | h5
   ·exact⟨b,off,cap,[],h1,iT.nil _ _,h2,h3,fun j u hj=>by simp at hj⟩
   ·refine⟨b,off,cap,_,h1,h5,h2,h3,fun j u hj=> ?_⟩
    rw [ub,td h4]
    rw [List.getElem?_take]at hj
    split at hj
    ·simpa using hj
    ·cases hj
 |true=>
  obtain⟨cs,h1,h2,_⟩:=h
  rcases h1.2 with⟨hv,hn⟩ | ⟨g,cap,cur,hv,_,hg,DR,MG,Ba,MH⟩
  ·exact .inl ⟨hv,List.length_eq_zero_iff.1 hn⟩
  ·refine .inr ⟨g,0,cap,cs,hv,h2,DR,MG,fun j u hj=> ?_⟩
   rw [ub,td hg]
   rw [← MH,List.getElem?_take]at hj
   split at hj
   ·simpa using hj
   ·cases hj
theorem tN{n:Nat}(h:n≤9223372036854775807):n≤maxLen:=by simp only [maxLen];omega
theorem Va(c:Ctx B ρ s a w look ent A){cl:Call}{x y:Operand}(ho:o.op= .call cl)(hb:cl.callee= .builtin .append)(uY:cl.args.toList= [x,y])(h:Wk P look ent A nid cl.argTypes x y=some r)(kh: ∀ i∈r.new,s.used i=false)(ec: ∀ b∈r.nd,b=true)(hC:lr B s ρ r o a K):o.wp P a w K Q:=by
 obtain⟨dst,op,ty,pos,after,guard⟩:=o
 simp only at ho;subst ho
 have xT:cl.args= #[x,y]:=by rw [← w9 (xs:=cl.args),uY]
 unfold Wk at h
 split at h
 ·rename_i id jd t1 t2 hx hy WZ
  split at h
  ·rename_i e t xs own e2 t' ys he1 he2
   split at h
   ·rename_i e' inf hT rR
    split at h
    ·rename_i z hz
     split at h
     ·rename_i ht
      subst ht
      cases gr:(Nat.beq t1 t2&&Nat.beq e' e&&Nat.beq inf.size t'.size&&Nat.beq z.cells.size t'.size)with
      |false=>simp [gr]at h
      |true=>
       simp only [gr,cond_true]at h
       cases h
       simp only [w5]at gr
       obtain⟨⟨⟨k1,k2⟩,k3⟩,k4⟩:=gr
       have k1:=q8 k1
       have k2:=q8 k2
       have k3:=q8 k3
       have k4:=q8 k4
       subst k1;subst k2
       have n1:xs.length + ys.length≤9223372036854775807:=by simpa using ec (decide (xs.length + ys.length≤9223372036854775807)) (by simp)
       have n2:(xs.length + ys.length) * inf.bytes≤140737488355328:=by simpa using ec (decide ((xs.length + ys.length) * inf.bytes≤140737488355328)) (by simp)
       have Tk:cl.argTypes= #[t1,t1]:=by rw [← w9 (xs:=cl.argTypes),WZ]
       have pN:=(c.evC hx).1
       have Dh:=(c.evC hy).1
       simp only [Cell.conc]at pN Dh
       have wV:=c.hE _ _ he1
       obtain⟨⟨cs,h1,h2,h3⟩,iU,_⟩:=c.hp.he _ _ wV
       obtain⟨hh2,_,_⟩:=c.hp.he _ _ (c.hE _ _ he2)
       have It:s.used nid=false:=kh nid (by simp)
       have fin: ∀ v' w' cs',(Builtin.append_ #[t1,t1] ty #[ρ id,ρ jd]).run P w= .ok v' w'→xZ w' e' t'.size v' (xs++ys).length cs'→iT ρ.mem t' cs' (xs++ys)→Chg w w' (fun k=>k∈fZ (ρ id))→(∀ b∈fZ v',w.heap.size≤b∨b∈fZ (ρ id))→
         Oper.wp P ⟨dst,.call cl,ty,pos,after,guard⟩ a w K Q:=by
        intro v' w' cs' hr nQ oB hg MF
        obtain⟨hX,hp⟩:=c.hp.rowTo wV It hg nQ oB MF
        refine az (u:=v') (w':=w') ?_ (hC _ v' w' hX ?_ hp)
        ·simp [execOp,resolve,hb,invoke,builtin,xT,pN,Dh,Tk,hr]
        ·simp only [one,SV.conc,V1.conc,Cell.conc]
         rw [gk _ _ (qr nQ)]
       rcases GN hh2 c.hp.hf.dat with⟨hv,hn⟩ | ⟨b,off,cap,news,hv,oB,DR,MG,hcells⟩
       ·subst hn
        rcases hv with hv | ⟨b,hv⟩
        ·have hr:=AE (P:=P) (w:=w) t1 ty e' inf t'.size hT rR (ρ id) xs.length cs h1
         rw [← hv]at hr
         exact fin _ _ cs hr (by simpa using h1) (by simpa using h2) (Chg.refl _ _) fun b hb=> .inr hb
        ·obtain⟨v',w',hr,g1,g2,g3⟩:=rD (P:=P) t1 ty e' inf z t'.size inf.bytes hT rR hz k3 rfl k4 (rE t') (ρ id) xs.length cs h1 b 0 0 [] (by simp) (fun j u hj=>by simp at hj) (fun u hu=>by simp at hu) (tN (by simpa using n1)) (by simpa using n2)
         rw [← hv]at hr
         exact fin _ _ _ hr (by simpa using g1) (by simpa using h2) g2 g3
       ·obtain⟨v',w',hr,g1,g2,g3⟩:=rD (P:=P) t1 ty e' inf z t'.size inf.bytes hT rR hz k3 rfl k4 (rE t') (ρ id) xs.length cs h1 ⟨b,off,none⟩ ys.length cap news oB.1 hcells oB.cell_one (tN n1) n2
        rw [← hv]at hr
        refine fin _ _ _ hr (by rw [w6];exact g1) (h2.append oB) g2 g3
     ·cases h
    ·cases h
   ·cases h
  ·rename_i e t xs e2 t' ys he1 he2
   split at h
   ·rename_i e' inf hT rR
    split at h
    ·rename_i z hz
     split at h
     ·rename_i ht
      subst ht
      cases gr:(Nat.beq t1 t2&&Nat.beq e' e&&Nat.beq inf.size t'.size&&Nat.beq z.cells.size t'.size&& !Nat.beq id jd)with
      |false=>simp [gr]at h
      |true=>
       simp only [gr,cond_true]at h
       cases h
       simp only [w5,Bool.not_eq_true']at gr
       obtain⟨⟨⟨⟨k1,k2⟩,k3⟩,k4⟩,k5⟩:=gr
       have k1:=q8 k1
       have k2:=q8 k2
       have k3:=q8 k3
       have k4:=q8 k4
       subst k1;subst k2
       have Hy:id≠jd:=fun hh=>by subst hh;simp at k5
       have n1:xs.length + ys.length≤9223372036854775807:=by simpa using ec (decide (xs.length + ys.length≤9223372036854775807)) (by simp)
       have n2:(xs.length + ys.length) * inf.bytes≤140737488355328:=by simpa using ec (decide ((xs.length + ys.length) * inf.bytes≤140737488355328)) (by simp)
       have Tk:cl.argTypes= #[t1,t1]:=by rw [← w9 (xs:=cl.argTypes),WZ]
       have pN:=(c.evC hx).1
       have Dh:=(c.evC hy).1
       simp only [Cell.conc]at pN Dh
       have wV:=c.hE _ _ he1
       have hent2:=c.hE _ _ he2
       obtain⟨⟨cs,Ls,h1,_⟩,iU,_⟩:=c.hp.he _ _ wV
       obtain⟨⟨ds,Ms,g1,g2,_⟩,hjd,_⟩:=c.hp.he _ _ hent2
       have It:s.used nid=false:=kh nid (by simp)
       have fin: ∀ v' w',(Builtin.append_ #[t1,t1] ty #[ρ id,ρ jd]).run P w= .ok v' w'→xZ w' e' t'.size v' (xs++ys).length (cs++ds)→Chg w w' (fun k=>k∈fZ (ρ id))→(∀ b∈fZ v',w.heap.size≤b∨b∈fZ (ρ id))→
         Oper.wp P ⟨dst,.call cl,ty,pos,after,guard⟩ a w K Q:=by
        intro v' w' hr nQ hg MF
        obtain⟨ρ',hv,hX,hp⟩:=c.hp.treeAppend wV hent2 Hy It hg h1 g1 nQ MF
        refine az (u:=v') (w':=w') ?_ (hC ρ' v' w' hX ?_ hp)
        ·simp [execOp,resolve,hb,invoke,builtin,xT,pN,Dh,Tk,hr]
        ·simp only [one,SV.conc,V1.conc,Cell.conc]
         exact hv.symm
       rcases g1.2 with⟨hv,hn⟩ | ⟨g,cap,cur,hv,hc0,hg,DR,MG,Ba,MH⟩
       ·have hds:ds= []:=List.length_eq_zero_iff.1 (by rw [g1.1,hn,Nat.zero_mul])
        have hys:ys= []:=List.length_eq_zero_iff.1 hn
        rcases hv with hv | ⟨b,hv⟩
        ·have hr:=AE (P:=P) (w:=w) t1 ty e' inf t'.size hT rR (ρ id) xs.length cs h1
         rw [← hv]at hr
         exact fin _ _ hr (by subst hds hys;simpa using h1) (Chg.refl _ _) fun b hb=> .inr hb
        ·obtain⟨v',w',hr,u1,u2,u3⟩:=rD (P:=P) t1 ty e' inf z t'.size inf.bytes hT rR hz k3 rfl k4 (rE t') (ρ id) xs.length cs h1 b 0 0 [] (by simp) (fun j u hj=>by simp at hj) (fun u hu=>by simp at hu) (tN (by omega)) (by rw [hn]at n2;exact n2)
         rw [← hv]at hr
         exact fin _ _ hr (by subst hds hys;simpa using u1) u2 u3
       ·obtain⟨v',w',hr,u1,u2,u3⟩:=rD (P:=P) t1 ty e' inf z t'.size inf.bytes hT rR hz k3 rfl k4 (rE t') (ρ id) xs.length cs h1 ⟨g,0,none⟩ ys.length cap ds g1.1
         (fun j u hj=>by
          rw [ub,td hg]
          rw [← MH,List.getElem?_take]at hj
          split at hj
          ·simpa using hj
          ·cases hj) (g2.one g1.1) (tN n1) n2
        rw [← hv]at hr
        exact fin _ _ hr (by rw [w6];exact u1) u2 u3
     ·cases h
    ·cases h
   ·cases h
  ·cases h
 ·rename_i id b c0 t1 t2 hx hy WZ
  split at h
  ·rename_i e t xs he1
   split at h
   ·rename_i e' inf hT rR
    split at h
    ·rename_i z hz
     cases gr:(Nat.beq t1 t2&&Nat.beq e' e&&Nat.beq inf.size t.size&&Nat.beq z.cells.size t.size)with
     |false=>simp [gr]at h
     |true=>
      simp only [gr,cond_true]at h
      cases h
      simp only [w5]at gr
      obtain⟨⟨⟨k1,k2⟩,k3⟩,k4⟩:=gr
      have k1:=q8 k1
      have k2:=q8 k2
      have k3:=q8 k3
      have k4:=q8 k4
      subst k1;subst k2
      have n1:xs.length≤9223372036854775807:=by simpa using ec (decide (xs.length≤9223372036854775807)) (by simp)
      have n2:xs.length * inf.bytes≤140737488355328:=by simpa using ec (decide (xs.length * inf.bytes≤140737488355328)) (by simp)
      have Tk:cl.argTypes= #[t1,t1]:=by rw [← w9 (xs:=cl.argTypes),WZ]
      have pN:=(c.evC hx).1
      have Dh:=(c.evC hy).1
      simp only [Cell.conc]at pN Dh
      have wV:=c.hE _ _ he1
      obtain⟨⟨cs,h1,h2,h3⟩,iU,_⟩:=c.hp.he _ _ wV
      have It:s.used nid=false:=kh nid (by simp)
      obtain⟨v',w',hr,g1,g2,g3⟩:=rD (P:=P) t1 ty e' inf z t.size inf.bytes hT rR hz k3 rfl k4 (rE t) (ρ id) xs.length cs h1 b 0 c0 [] (by simp) (fun j u hj=>by simp at hj) (fun u hu=>by simp at hu) (tN (by simpa using n1)) (by simpa using n2)
      have nQ:xZ w' e' t.size v' xs.length cs:=by simpa using g1
      obtain⟨hX,hp⟩:=c.hp.rowTo wV It g2 nQ h2 g3
      refine az (u:=v') (w':=w') ?_ (hC _ v' w' hX ?_ hp)
      ·simp [execOp,resolve,hb,invoke,builtin,xT,pN,Dh,Tk,hr]
      ·simp only [one,SV.conc,V1.conc,Cell.conc]
       rw [gk _ _ (qr nQ)]
    ·cases h
   ·cases h
  ·cases h
 ·rename_i id t1 t2 hx hy WZ
  split at h
  ·rename_i e t xs he1
   split at h
   ·rename_i e' inf hT rR
    split at h
    ·rename_i z hz
     cases gr:(Nat.beq t1 t2&&Nat.beq e' e&&Nat.beq inf.size t.size&&Nat.beq z.cells.size t.size)with
     |false=>simp [gr]at h
     |true=>
      simp only [gr,cond_true]at h
      cases h
      simp only [w5]at gr
      obtain⟨⟨⟨k1,k2⟩,k3⟩,k4⟩:=gr
      have k1:=q8 k1
      have k2:=q8 k2
      have k3:=q8 k3
      have k4:=q8 k4
      subst k1;subst k2
      have n1:xs.length≤9223372036854775807:=by simpa using ec (decide (xs.length≤9223372036854775807)) (by simp)
      have n2:xs.length * inf.bytes≤140737488355328:=by simpa using ec (decide (xs.length * inf.bytes≤140737488355328)) (by simp)
      have Tk:cl.argTypes= #[t1,t1]:=by rw [← w9 (xs:=cl.argTypes),WZ]
      have pN:=(c.evC hx).1
      have Dh:=(c.evC hy).1
      simp only [Cell.conc]at pN Dh
      have wV:=c.hE _ _ he1
      obtain⟨⟨cs,h1,h2,h3⟩,iU,_⟩:=c.hp.he _ _ wV
      have It:s.used nid=false:=kh nid (by simp)
      have hr:=AE (P:=P) (w:=w) t1 ty e' inf t.size hT rR (ρ id) xs.length cs h1
      obtain⟨hX,hp⟩:=c.hp.rowTo wV It (Chg.refl _ _) h1 h2 (fun b hb=> .inr hb)
      refine az (u:=ρ id) (w':=w) ?_ (hC _ (ρ id) w hX ?_ hp)
      ·simp [execOp,resolve,hb,invoke,builtin,xT,pN,Dh,Tk,hr]
      ·simp only [one,SV.conc,V1.conc,Cell.conc]
       rw [gk _ _ (qr h1)]
    ·cases h
   ·cases h
  ·cases h
 ·cases h
end
end Go.SX
namespace Go.SX
open Go.RowKit
section
variable{P:Program}{tr:Bool}{s:St}{look:Nat→Option SS}{ent:Nat→Option Entry}{A:List (Nat×Bool)}{nid:Nat}{o:Oper}{r:Raw}{B:Base}{ρ:Nm}{a:Act}{w:World}{K:Act→World→Prop}{Q:Exit→Act→World→Prop}
theorem Nm.of_nm{ρ ρ':Nm}(h:ρ'.nm=ρ.nm)(i:Nat):ρ' i=ρ i:=by simp [Nm.of,h]
theorem abM{ρ ρ':Nm}(h:ρ'.nm=ρ.nm)(c:Cell):c.conc ρ'=c.conc ρ:=
 Cell.conc_congr (U:=fun _=>true) (fun id _=>Nm.of_nm h id) (by cases c <;> simp [Cell.inU])
theorem NN{ρ ρ':Nm}(h:ρ'.nm=ρ.nm)(cs:List Cell):cs.map (Cell.conc ρ')=cs.map (Cell.conc ρ):=
 List.map_congr_left fun c _=>abM h c
theorem look?_frz_not{ent:Nat→Option Entry}: ∀ {l:List Nat} {i:Nat},i∉l→look? (frz ent l) i=none
 | [],i,_=>rfl
 |id::r,i,h=>by
  simp only [List.mem_cons,not_or]at h
  simp only [frz]
  split
  ·simp only [look?]
   cases hb:Nat.beq id i with
   |true=>exact(h.1 (q8 hb).symm).elim
   |false=>exact look?_frz_not h.2
  ·exact look?_frz_not h.2
theorem Ma: ∀ (t:CTy) (x:E t) (n:Nat),t.flat=true→(qn t x n).map (Cell.conc ρ)=RP t x
 | .int _,_,_,_=>rfl
 | .bool,_,_,_=>rfl
 | .str,_,_,_=>rfl
 | .sl _ _,_,_,h=>by cases h
 | .fn,_,_,h=>by cases h
 | .pair a b,p,n,h=>by
  simp only [CTy.flat,w5]at h
  simp only [qn,List.map_append,RP,Ma a p.1 n h.1,Ma b p.2 _ h.2]
theorem Ol{α:Type}(cur N:List α)(k off z m:Nat)(h1:off + N.length≤z)(h2:k + z≤m)(h3:m≤cur.length):
  (cur.take (k + off)++N++cur.drop (k + off + N.length)).take m=
   (cur.take m).take k++((((cur.take m).drop k).take z).take off++N++(((cur.take m).drop k).take z).drop (off + N.length))++(cur.take m).drop (k + z):=by
 apply List.ext_getElem?
 intro j
 simp only [List.getElem?_take,List.getElem?_append,List.getElem?_drop,w6,w7,List.length_drop]
 have e1:min (k + off) cur.length=k + off:=by omega
 have e2:min m cur.length=m:=by omega
 have e3:min k m=k:=by omega
 have e4:min z (m - k)=z:=by omega
 have e5:min off z=off:=by omega
 simp only [e1,e2,e3,e4,e5]
 by_cases c1:j < k
 ·have:j < k + off:=by omega
  simp [c1,this,show j < m by omega,show j < k + off + N.length by omega,show j < k + (off + N.length + (z - (off + N.length))) by omega]
 ·by_cases c2:j < k + off
  ·simp [c1,c2,show j < m by omega,show j < k + off + N.length by omega,show j < k + (off + N.length + (z - (off + N.length))) by omega,show j - k < off + N.length by omega,show j - k < off by omega,show j - k < z by omega,show k + (j - k)=j by omega]
  ·by_cases c3:j < k + off + N.length
   ·simp [c1,c2,c3,show j < m by omega,show j < k + (off + N.length + (z - (off + N.length))) by omega,show j - k < off + N.length by omega,show ¬ j - k < off by omega,show j - (k + off)=j - k - off by omega]
   ·by_cases c4:j < k + z
    ·simp [c1,c3,show j < m by omega,show j < k + (off + N.length + (z - (off + N.length))) by omega,show ¬ j - k < off + N.length by omega,show off + N.length + (j - k - (off + N.length)) < z by omega,
      show k + (off + N.length + (j - k - (off + N.length))) < m by omega]
     congr 1;omega
    ·by_cases c5:j < m
     ·simp [c3,c5,show ¬ j < k + (off + N.length + (z - (off + N.length))) by omega,show k + z + (j - (k + (off + N.length + (z - (off + N.length))))) < m by omega]
      congr 1;omega
     ·simp [c5,show ¬ j < k + (off + N.length + (z - (off + N.length))) by omega,show ¬ k + z + (j - (k + (off + N.length + (z - (off + N.length))))) < m by omega]
theorem aab{α:Type}{cs D:List α}{k z n:Nat}(hl:cs.length=n * z)(hk:k < n)(hD:D.length=z):
  ((cs.take (k * z)++D++cs.drop (k * z + z)).drop (k * z)).take z=D∧ ∀ j,j≠k→j < n→((cs.take (k * z)++D++cs.drop (k * z + z)).drop (j * z)).take z=(cs.drop (j * z)).take z:=by
 have DR:=qO (z:=z) hk
 refine⟨?_,fun j hj hjn=> ?_⟩
 ·rw [List.append_assoc,List.drop_append,List.drop_take,Nat.sub_self,List.take_zero,List.nil_append,w7,hl,Nat.min_eq_left (by omega),Nat.sub_self,List.drop_zero,List.take_append_of_le_length (by omega),← hD,List.take_length]
 ·by_cases iM:j < k
  ·have h1:j * z + z≤k * z:=qO iM
   have e:(cs.take (k * z)++D++cs.drop (k * z + z)).drop (j * z)=(cs.drop (j * z)).take (k * z - j * z)++(D++cs.drop (k * z + z)):=by
    rw [List.append_assoc,List.drop_append_of_le_length (by rw [w7,hl];omega),List.drop_take]
   rw [e,List.take_append_of_le_length (by rw [w7,List.length_drop,hl];have:=qO (z:=z) hjn;omega),List.take_take,Nat.min_eq_left (by omega)]
  ·have hgt:k < j:=by omega
   have h1:k * z + z≤j * z:=qO hgt
   have e:(cs.take (k * z)++D++cs.drop (k * z + z)).drop (j * z)=cs.drop (j * z):=by
    rw [List.drop_append,List.drop_eq_nil_of_le (by rw [w6,w7,hl,hD];omega),List.nil_append,w6,w7,hl,hD,List.drop_drop]
    congr 1;omega
   rw [e]
theorem Hp.treeSet{ent:Nat→Option Entry}{used:Nat→Bool}(h:Hp B ρ ent used w){id:Nat}{e:TypeId}{t:CTy}{xs:List (E t)}{k:Nat}{hc:List Cell}(he:ent id=some (.tree e t xs (some (k,hc)))){ns:List Cell}{off:Nat}
  (VI: ∀ c∈ns,c.inU used) (kg:off + ns.length≤t.size):
  ∃ g cap cur,ρ id= .slice (some ⟨g,0,none⟩) xs.length cap∧w.heap[g]? =some (.cells cur e (0,0))∧k * t.size + t.size≤cur.size∧
   Ext B used ρ ρ∧Hp B ρ (be ent [(id,.tree e t xs (some (k,hc.take off++ns++hc.drop (off + ns.length))))]) used (w.setRow g (cur.toList.take (k * t.size + off)++ns.map (Cell.conc ρ)++cur.toList.drop (k * t.size + off + ns.length)).toArray):=by
 obtain⟨⟨cs,Ls,h1,⟨t1,t2,t3,t4⟩,h3,h4,h5⟩,iU,uL⟩:=h.he _ _ he
 obtain⟨hk,hLk,WX⟩:=t2 k hc rfl
 have iM:=qO (z:=t.size) hk
 rcases h1.2 with⟨_,hn⟩ | ⟨g,cap,cur,hv,hc0,hg,DR,MG,Ba,MH⟩
 ·omega
 have hle2:xs.length * t.size≤cur.size:=by rw [Ba];exact Nat.mul_le_mul_right _ DR
 refine⟨g,cap,cur,hv,hg,by omega,?_⟩
 have hgo: ∀ b∈ol Ls,b≠g:=fun b hb hbg=>h4 b (by rw [hv,pO hc0,hbg];simp) (by rw [h3];exact hb)
 obtain⟨W,hW⟩: ∃ W,W=w.setRow g (cur.toList.take (k * t.size + off)++ns.map (Cell.conc ρ)++cur.toList.drop (k * t.size + off + ns.length)).toArray:=⟨_,rfl⟩
 rw [← hW]
 have hspl:=Ol cur.toList (ns.map (Cell.conc ρ)) (k * t.size) off t.size (xs.length * t.size) (by simpa using kg) iM (by simpa using hle2)
 rw [MH,WX,List.length_map]at hspl
 have Kg:cs.length=xs.length * t.size:=h1.1
 have hhc:hc.length=t.size:=by
  have:=congrArg List.length WX
  rw [w7,List.length_drop,List.length_map,Kg]at this
  omega
 have hDl:((hc.map (Cell.conc ρ)).take off++ns.map (Cell.conc ρ)++(hc.map (Cell.conc ρ)).drop (off + ns.length)).length=t.size:=by
  simp only [w6,w7,List.length_drop,List.length_map];omega
 obtain⟨s1,s2⟩:=aab (n:=xs.length) Kg hk hDl
 have:=h.toTree (ρ':=ρ) (w':=W) (X:=fun b=>b=g) (G:= []) (id:=id) (new:= []) (e:=e) (t:=t) (xs:=xs) (ho:=some (k,hc.take off++ns++hc.drop (off + ns.length)))
  (cs:=(cur.toList.take (k * t.size + off)++ns.map (Cell.conc ρ)++cur.toList.drop (k * t.size + off + ns.length)).take (xs.length * t.size)) (Ls:=Ls)
  (by rw [hW];exact Chg.setRow w g _) (fun _ _=>rfl) rfl (fun _ _=>rfl) (fun g hg=>by cases hg) iU (fun c MG=> ?_) (fun b hb=>⟨id,.inl rfl,_,he,by subst hb;simp only [Entry.ob,hv,pO hc0];simp⟩)
  (fun b hb=> .inr ⟨id,.inl rfl,_,he,by simp only [Entry.ob,h3];exact hb⟩) ?_ ⟨t1,fun k' hc' hk'=> ?_,fun j y l hj hy hl=> ?_,t4⟩ h3 (fun b hb=>by rw [← h3];exact h4 b hb)
 ·exact⟨Ext.refl _ _ _,this.2⟩
 ·simp only [List.append_assoc,z1]at MG
  rcases MG with MG | MG | MG
  ·exact uL c (List.mem_of_mem_take MG)
  ·exact VI c MG
  ·exact uL c (List.mem_of_mem_drop MG)
 ·refine⟨?_,.inr ⟨g,cap,(cur.toList.take (k * t.size + off)++ns.map (Cell.conc ρ)++cur.toList.drop (k * t.size + off + ns.length)).toArray,hv,hc0,?_,DR,MG,?_,?_⟩⟩
  ·simp only [w7,w6,List.length_map,List.length_drop,Array.length_toList];omega
  ·rw [hW];exact setRow_heap w g _ _ e _ hg
  ·simp only [List.size_toArray,w7,w6,List.length_map,List.length_drop,Array.length_toList];omega
  ·rfl
 ·cases hk'
  refine⟨hk,hLk,?_⟩
  rw [hspl,s1]
  simp only [List.map_append,List.map_take,List.map_drop]
 ·have Hy:j≠k:=hj k _ rfl
  have hjn:j < xs.length:=(z7.1 hy).1
  rw [hspl,s2 j Hy hjn]
  refine(t3 j y l (fun a b hab=>by cases hab;exact Hy) hy hl).keep fun b hb=> ?_
  rw [hW]
  exact setRow_other w g b _ fun e=>hgo b (mb.2 ⟨j,l,hl,hb⟩) e
theorem BQ.win{H:Nat→Option Obj}{t:CTy}{v:Value}{xs:List (E t)}(h:BQ H t v xs){i:Nat}(hi:i < xs.length):
  ∃ b off cap arr T fz,v= .slice (some ⟨b,off,none⟩) xs.length cap∧xs.length≤cap∧cap≤maxLen∧H b=some (.cells arr T fz)∧off + xs.length * t.size≤arr.size∧iT H t ((arr.toList.drop off).take (xs.length * t.size)) xs:=by
 rcases h with⟨_,hn⟩ | ⟨b,off,cap,arr,T,fz,h1,h2,h3,h4,h5⟩
 ·rw [hn]at hi;simp at hi
 ·have hp:=rE t
  have hlast:off + xs.length * t.size≤arr.size:=by
   have hx:xs[xs.length - 1]? =some (xs[xs.length - 1]'(by omega)):=List.getElem?_eq_getElem (by omega)
   have hl:=Rep.length t _ _ (h5 _ _ hx)
   rw [w7,List.length_drop,Array.length_toList]at hl
   have e:xs.length * t.size=(xs.length - 1) * t.size + t.size:=by
    have:(xs.length - 1 + 1) * t.size=(xs.length - 1) * t.size + t.size:=by rw [Nat.add_mul,Nat.one_mul]
    rw [← this];congr 1;omega
   omega
  refine⟨b,off,cap,arr,T,fz,h1,h2,h3,h4,hlast,by have:=Array.length_toList (xs:=arr);rw [w7,List.length_drop];omega,fun j x hx=> ?_⟩
  have iM:=qO (z:=t.size) (z7.1 hx).1
  rw [List.drop_take,List.take_take,Nat.min_eq_left (by omega),List.drop_drop]
  exact h5 j x hx
theorem BQ.ofWin{H:Nat→Option Obj}{t:CTy}{xs:List (E t)}{b off cap:Nat}{arr:Array Value}{T:TypeId}{fz:Nat×Nat}(h1:xs.length≤cap)(h2:cap≤maxLen)(h3:H b=some (.cells arr T fz))
  (h:iT H t ((arr.toList.drop off).take (xs.length * t.size)) xs):BQ H t (.slice (some ⟨b,off,none⟩) xs.length cap) xs:=by
 refine .inr ⟨b,off,cap,arr,T,fz,rfl,h1,h2,h3,fun j x hx=> ?_⟩
 have iM:=qO (z:=t.size) (z7.1 hx).1
 have:=h.2 j x hx
 rwa [List.drop_take,List.take_take,Nat.min_eq_left (by omega),List.drop_drop]at this
theorem aaR{α:Type}(l r:List α)(a k:Nat)(h:a + k≤l.length):(l.take (a + k)++r).drop a=(l.drop a).take k++r:=by
 rw [List.drop_append_of_le_length (by rw [w7];omega),List.drop_take,show a + k - a=k by omega]
theorem Hp.wkSet{ent:Nat→Option Entry}{used:Nat→Bool}(h:Hp B ρ ent used w){id:Nat}{e:TypeId}{t:CTy}{xs xs':List (E t)}{w':World}(he:ent id=some (.wk e t xs))
  (hg:Chg w w' (fun k=>k∈fZ (ρ id))) (hr:BQ (Vr w') t (ρ id) xs'):Ext B used ρ ρ∧Hp B ρ (be ent [(id,.wk e t xs')]) used w':=by
 obtain⟨⟨h1,h2,h3⟩,iU,_⟩:=h.he _ _ he
 have Dk: ∀ b∈fZ (ρ id),Was ent ρ [(id,.wk e t xs')] b:=fun b hb=>⟨id,_,_,he,hb,look?_same _ _ _⟩
 rw [show used=bq used [] from rfl]
 refine h.chg hg (fun _ _=>rfl) (fun _ _ h=>h) (fun k hk=>Dk k hk) (fun _ _ hb=> .inl hb) (fun i x hl=> ?_) (fun i x b hl hb'=> ?_) (fun i i' x x' b hl hl' hb1 hb2=> ?_)
 ·obtain⟨rfl,rfl⟩:=look?_one hl
  exact⟨⟨h1,hr,h3⟩,iU,trivial⟩
 ·obtain⟨rfl,rfl⟩:=look?_one hl
  exact .inr (Dk b hb')
 ·exact(look?_one hl).1.trans (look?_one hl').1.symm
theorem WS(c:Ctx B ρ s a w look ent A){T:TypeId}{x y:Operand}(ho:o.op= .store T x y)(h:Zq P look ent A nid T x y=some r)(kh: ∀ i∈r.new,s.used i=false)(ec: ∀ b∈r.nd,b=true)(hC:lr B s ρ r o a K):o.wp P a w K Q:=by
 obtain⟨dst,op,ty,pos,after,guard⟩:=o
 simp only at ho;subst ho
 unfold Zq at h
 split at h
 ·rename_i id off v hx hy
  split at h
  ·rename_i U cs ns he VI
   cases gr:wv P T off cs.length ns with
   |false=>simp [gr]at h
   |true=>
    simp [gr]at h;subst h
    have wV:=c.hE _ _ he
    obtain⟨⟨b,h1,h2,_⟩,_,uL⟩:=c.hp.he _ _ wV
    have pN:=(c.evC hx).1
    obtain⟨Dh,hyin⟩:=c.ev1 hy
    have hnin:=V1.cells?_inU hyin VI
    have hr:=GO (ρ:=ρ) (w:=w) (b:=b) (off:=off) gr (fun h=>by simpa using h) (V1.cells?_conc ρ VI) h2
    obtain⟨hX,hp⟩:=c.hp.setBox wV (ns:=cs.take off++ns++cs.drop (off + ns.length)) (fun c hc=>by
     simp only [List.append_assoc,z1]at hc
     rcases hc with hc | hc | hc
     ·exact uL c (List.mem_of_mem_take hc)
     ·exact hnin c hc
     ·exact uL c (List.mem_of_mem_drop hc))
    have hbk:FX (ρ id)=b:=by rw [h1];rfl
    rw [hbk]at hp
    rw [Rw,hbk]at pN
    obtain⟨W,hW⟩: ∃ W,W=w.setRow b ((cs.take off++ns++cs.drop (off + ns.length)).map (Cell.conc ρ)).toArray:=⟨_,rfl⟩
    rw [← hW]at hp
    have hr':(storeVar T ⟨b,off,none⟩ (v.conc ρ)).run P w= .ok () W:=by
     rw [hr,hW];simp [List.map_take,List.map_drop]
    refine Hh (w':=W) ?_ (hC ρ _ W hX (SV.conc_ofValue ρ undef).symm (by simpa [Mh,List.append_assoc] using hp))
    simp [execOp,Instr.storeAt,pN,Dh,Instr.sureAddr,hr']
  ·cases h
 ·rename_i id z i off v hx hy
  split at h
  ·rename_i e t xs ns he VI
   cases gr:(Nat.beq z t.size&&wv P T off t.size ns&&(t.flat||Nat.beq off 0&&Nat.beq ns.length t.size))with
   |false=>simp [gr]at h
   |true=>
    simp only [gr,cond_true]at h
    simp only [w5]at gr
    obtain⟨⟨k1,k2⟩,k3⟩:=gr
    have:=q8 k1;subst this
    split at h
    ·rename_i y' l Kg
     cases hm:memN l id with
     |true=>simp [hm]at h
     |false=>
      simp only [hm,cond_false]at h
      cases h
      have hi:i < xs.length:=by simpa using ec (decide (i < xs.length)) (by simp)
      have wV:=c.hE _ _ he
      have pN:=(c.evC hx).1
      obtain⟨Dh,hyin⟩:=c.ev1 hy
      obtain⟨ρ1,n1,x1,h1⟩:=c.hp.freezes c.hE l
      have hnl:id∉l:=fun hh=>by rw [memN_mem.2 hh]at hm;cases hm
      have hent1:be s.ent (frz ent l) id=some (.row true e t xs):=by simp only [be,look?_frz_not hnl];exact wV
      obtain⟨⟨cs,g1,g2,g3⟩,_,_⟩:=h1.he _ _ hent1
      have oB:=EZ c.hE h1 t _ _ _ Kg fun i hi=>hi
      have iM:=qO (z:=t.size) hi
      rcases g1.2 with⟨_,hn⟩ | ⟨g,cap,cur,hv,hc0,hg,DR,MG,Ba,MH⟩
      ·omega
      ·have iU:=Nm.of_nm n1 id
       have hle2:xs.length * t.size≤cur.size:=by rw [Ba];exact Nat.mul_le_mul_right _ DR
       have hns':off + ns.length≤t.size:=by
        unfold wv at k2
        split at k2
        ·simp only [w5]at k2;exact j7 k2.1.2
        ·cases k2
       have hr:=GO (ρ:=ρ) (w:=w) (b:=g) (off:=i * t.size + off) (cur:=cur) k2 (fun h=>by omega) (V1.cells?_conc ρ VI) hg
       obtain⟨W,hW⟩: ∃ W,W=w.setRow g (cur.toList.take (i * t.size + off)++ns.map (Cell.conc ρ)++cur.toList.drop (i * t.size + off + ns.length)).toArray:=⟨_,rfl⟩
       rw [← hW]at hr
       have hgr:w.grownBy W (ρ1 id).ownBlock:=by
        rw [hv,hW]
        exact⟨rfl,rfl,rfl,by simp [World.setRow],fun k _ hk=>setRow_other w g k _ fun e=>hk (by simp [Value.ownBlock,e])⟩
       have hspl:=Ol cur.toList (ns.map (Cell.conc ρ)) (i * t.size) off t.size (xs.length * t.size) (by simpa using hns') iM (by simpa using hle2)
       have nQ:W.ownsRow 0 e t.size (ρ1 id) (xs.set i y').length ((cur.toList.take (i * t.size + off)++ns.map (Cell.conc ρ)++cur.toList.drop (i * t.size + off + ns.length)).take (xs.length * t.size)):=by
        refine⟨?_,.inr ⟨g,cap,(cur.toList.take (i * t.size + off)++ns.map (Cell.conc ρ)++cur.toList.drop (i * t.size + off + ns.length)).toArray,?_,Nat.zero_le _,?_,?_,MG,?_,?_⟩⟩
        ·simp only [j9,w7,w6,List.length_map,List.length_drop,Array.length_toList];omega
        ·rw [j9];exact hv
        ·rw [hW];exact setRow_heap w g _ _ e _ hg
        ·rw [j9];exact DR
        ·simp only [List.size_toArray,w7,w6,List.length_map,List.length_drop,Array.length_toList];omega
        ·rw [j9]
       have hds:iT ρ1.mem t ((cur.toList.take (i * t.size + off)++ns.map (Cell.conc ρ)++cur.toList.drop (i * t.size + off + ns.length)).take (xs.length * t.size)) (xs.set i y'):=by
        rw [List.length_map]at hspl
        rw [hspl,MH]
        refine iT.set g2 hi ?_
        have WX:=g2.2 i _ (LO (d:=tC t) hi)
        rw [NN n1]at oB
        simp only [List.map_append,List.map_take,List.map_drop]at oB
        rcases Bool.or_eq_true_iff.1 k3 with hf | hf
        ·rw [Ma t _ nid hf]at oB
         rw [Rep.flat t _ _ hf WX];exact oB
        ·simp only [w5]at hf
         have f1:=q8 hf.1
         have f2:=q8 hf.2
         subst f1
         rw [f2]at oB ⊢
         rw [List.take_zero,List.drop_eq_nil_of_le (by rw [List.length_map,Mb];omega)]at oB
         rw [List.take_zero,List.drop_eq_nil_of_le (by rw [w7];omega)]
         exact oB
       obtain⟨hX,hp⟩:=h1.rowSet hent1 (Chg.own hgr fun k hk=>by rw [hv]at hk ⊢;simp only [Value.ownBlock,q9]at hk;rw [pO hc0,← hk];simp) (Fw nQ) hds
       rw [ux]at hp
       refine Hh (w':=W) ?_ (hC ρ1 _ W (x1.trans hX fun _ h=>h) (SV.conc_ofValue ρ1 undef).symm hp)
       rw [Fl]at pN
       rw [iU]at hv
       simp only [hv,FX,NS,Nat.zero_add]at pN
       simp [execOp,Instr.storeAt,pN,Dh,Instr.sureAddr,hr]
    ·cases h
  ·rename_i e t xs ns he VI
   cases gr:(Nat.beq z t.size&&wv P T off t.size ns)with
   |false=>simp [gr]at h
   |true=>
    simp only [gr,cond_true]at h
    simp only [w5]at gr
    obtain⟨k1,k2⟩:=gr
    have:=q8 k1;subst this
    split at h
    ·rename_i y' Kg
     cases h
     have hi:i < xs.length:=by simpa using ec (decide (i < xs.length)) (by simp)
     have wV:=c.hE _ _ he
     have pN:=(c.evC hx).1
     obtain⟨Dh,hyin⟩:=c.ev1 hy
     obtain⟨⟨hf,g2,g3⟩,_,_⟩:=c.hp.he _ _ wV
     have h0:Hp B ρ (be s.ent (frz ent [])) s.used w:=c.hp
     have oB:=EZ c.hE h0 t _ _ _ Kg fun i hi=>hi
     have hns':off + ns.length≤t.size:=by
      unfold wv at k2
      split at k2
      ·simp only [w5]at k2;exact j7 k2.1.2
      ·cases k2
     obtain⟨b,o0,cap,arr,T',fz,hv,q2,q3,q4,q5,q6⟩:=g2.win hi
     obtain⟨hg,a',T'',hoo⟩:=Oa.1 q4
     cases hoo
     have iM:=qO (z:=t.size) hi
     have hr:=GO (ρ:=ρ) (w:=w) (b:=b) (off:=o0 + (i * t.size + off)) (cur:=arr) k2 (fun h=>by omega) (V1.cells?_conc ρ VI) hg
     obtain⟨W,hW⟩: ∃ W,W=w.setRow b (arr.toList.take (o0 + (i * t.size + off))++ns.map (Cell.conc ρ)++arr.toList.drop (o0 + (i * t.size + off) + ns.length)).toArray:=⟨_,rfl⟩
     rw [← hW]at hr
     have hspl:=Ol (arr.toList.drop o0) (ns.map (Cell.conc ρ)) (i * t.size) off t.size (xs.length * t.size) (by simpa using hns') iM (by have:=Array.length_toList (xs:=arr);rw [List.length_drop];omega)
     have hcut:(arr.toList.take (o0 + (i * t.size + off))++ns.map (Cell.conc ρ)++arr.toList.drop (o0 + (i * t.size + off) + ns.length)).drop o0=(arr.toList.drop o0).take (i * t.size + off)++ns.map (Cell.conc ρ)++(arr.toList.drop o0).drop (i * t.size + off + (ns.map (Cell.conc ρ)).length):=by
      rw [List.append_assoc,aaR _ _ _ _ (by rw [Array.length_toList];omega),List.append_assoc,List.drop_drop,List.length_map]
      congr 3;omega
     have hds:iT (Vr W) t (((arr.toList.take (o0 + (i * t.size + off))++ns.map (Cell.conc ρ)++arr.toList.drop (o0 + (i * t.size + off) + ns.length)).drop o0).take (xs.length * t.size)) (xs.set i y'):=by
      rw [hcut,hspl]
      have q7:iT (Vr W) t ((arr.toList.drop o0).take (xs.length * t.size)) xs:=⟨q6.1,fun j x hx=>by rw [Rep.flat t _ _ hf (q6.2 j x hx)];exact Rep.of_flat t x hf⟩
      refine iT.set q7 hi ?_
      have WX:=q6.2 i _ (LO (d:=tC t) hi)
      simp only [List.map_append,List.map_take,List.map_drop]at oB
      rw [Ma t _ nid hf]at oB
      rw [Rep.flat t _ _ hf WX]
      rw [List.length_map]
      rw [Rep.flat t _ _ hf oB]
      exact Rep.of_flat t _ hf
     have Ba:b∈fZ (ρ id):=by rw [hv,pO (by omega)];simp
     obtain⟨hX,hp⟩:=c.hp.wkSet (xs':=xs.set i y') wV (w':=W) (by
      rw [hW]
      exact⟨rfl,rfl,rfl,by simp [World.setRow],fun k _ hk=>setRow_other w b k _ fun e=>hk (by rw [e];exact Ba)⟩) (by
      rw [hv]
      have:=BQ.ofWin (H:=Vr W) (t:=t) (xs:=xs.set i y') (b:=b) (off:=o0) (cap:=cap) (arr:=(arr.toList.take (o0 + (i * t.size + off))++ns.map (Cell.conc ρ)++arr.toList.drop (o0 + (i * t.size + off) + ns.length)).toArray) (T:=T') (fz:=(0,0)) (by rw [j9];exact q2) q3
       (Oa.2 ⟨by rw [hW];exact setRow_heap w b _ _ T' _ hg,_,_,rfl⟩) (by rw [j9];exact hds)
      rwa [j9]at this)
     refine Hh (w':=W) ?_ (hC ρ _ W hX (SV.conc_ofValue ρ undef).symm hp)
     rw [Fl]at pN
     simp only [hv,FX,NS]at pN
     simp [execOp,Instr.storeAt,pN,Dh,Instr.sureAddr,hr]
    ·cases h
  ·rename_i e t xs ns he VI
   cases gr:(Nat.beq z t.size&&wv P T off t.size ns)with
   |false=>simp [gr]at h
   |true=>
    simp only [gr,cond_true]at h
    simp only [w5]at gr
    obtain⟨k1,k2⟩:=gr
    have:=q8 k1;subst this
    cases h
    have hi:i < xs.length:=by simpa using ec (decide (i < xs.length)) (by simp)
    have wV:=c.hE _ _ he
    have pN:=(c.evC hx).1
    obtain⟨Dh,hyin⟩:=c.ev1 hy
    have hnin:=V1.cells?_inU hyin VI
    obtain⟨hid0,hidu,_⟩:=c.hp.he _ _ wV
    obtain⟨ρ1,hX1,hm1,h1⟩:=c.hp.treeOpen wV (LO (d:=tC t) hi) (nid:=nid) (fun j hj=>kh j hj)
    have hns':off + ns.length≤t.size:=by
     unfold wv at k2
     split at k2
     ·simp only [w5]at k2;exact j7 k2.1.2
     ·cases k2
    obtain⟨g,cap,cur,hv,hg,DQ,hX2,h2⟩:=h1.treeSet (id:=id) (e:=e) (t:=t) (xs:=xs) (k:=i) (hc:=qn t (xs[i]?.getD (tC t)) nid) (by simp [be,look?]) (ns:=ns) (off:=off) (fun c hc=>Cell.inU_mono gm (hnin c hc)) hns'
    have LR:ns.map (Cell.conc ρ1)=ns.map (Cell.conc ρ):=rB hX1.nm hnin
    rw [LR]at h2
    have hr:=GO (ρ:=ρ) (w:=w) (b:=g) (off:=i * t.size + off) (cur:=cur) k2 (fun h=>by omega) (V1.cells?_conc ρ VI) hg
    obtain⟨W,hW⟩: ∃ W,W=w.setRow g (cur.toList.take (i * t.size + off)++ns.map (Cell.conc ρ)++cur.toList.drop (i * t.size + off + ns.length)).toArray:=⟨_,rfl⟩
    rw [← hW]at hr h2
    have hee:be (be s.ent ((id,Entry.tree e t xs (some (i,qn t (xs[i]?.getD (tC t)) nid)))::wB t (xs[i]?.getD (tC t)) nid)) [(id,.tree e t xs (some (i,(qn t (xs[i]?.getD (tC t)) nid).take off++ns++(qn t (xs[i]?.getD (tC t)) nid).drop (off + ns.length))))]=
      be s.ent ((id,.tree e t xs (some (i,(qn t (xs[i]?.getD (tC t)) nid).take off++ns++(qn t (xs[i]?.getD (tC t)) nid).drop (off + ns.length))))::wB t (xs[i]?.getD (tC t)) nid):=by
     funext j
     simp only [be,look?]
     cases Nat.beq id j <;> rfl
    rw [hee]at h2
    refine Hh (w':=W) ?_ (hC ρ1 _ W hX1 (SV.conc_ofValue ρ1 undef).symm h2)
    have hid1:ρ1 id=ρ id:=hX1.nm id hidu
    rw [hid1]at hv
    rw [Fl]at pN
    simp only [hv,FX,NS,Nat.zero_add]at pN
    simp [execOp,Instr.storeAt,pN,Dh,Instr.sureAddr,hr]
  ·cases h
 ·cases h
theorem KM(c:Ctx B ρ s a w look ent A): ∀ {xs:List Operand} {vs:List SV},evs look A xs=some vs→xs.map a.eval=vs.map (SV.conc ρ)∧ ∀ v∈vs,v.inU s.used
 | [],vs,h=>by simp [evs]at h;subst h;simp
 |x::xs,vs,h=>by
  simp only [evs]at h
  split at h
  ·rename_i v vs' h1 h2
   cases h
   obtain⟨e1,i1⟩:=c.ev h1
   obtain⟨e2,i2⟩:=KM c h2
   refine⟨by simp [e1,e2],fun u hu=> ?_⟩
   rcases List.mem_cons.1 hu with rfl | hu
   ·exact i1
   ·exact i2 u hu
  ·cases h
theorem VU: ∀ {vs:List SV} {ids:List Nat},aaw vs=some ids→vs.map (SV.conc ρ)=ids.map fun id=>Value.pointer (some ⟨FX (ρ id),0,none⟩)
 | [],ids,h=>by simp [aaw]at h;subst h;rfl
 |v::vs,ids,h=>by
  unfold aaw at h
  split at h
  ·cases ‹v::vs= []›
  ·rename_i id r HJ
   cases HJ
   cases hq:aaw vs with
   |none=>simp [hq]at h
   |some l=>simp [hq]at h;subst h;simp [VU hq,SV.conc,V1.conc,Cell.conc]
  ·cases h
theorem RN{ρ:Nm}: ∀ {cs:List Cell} {bs:List (Nat×Option Value)},Yv cs=some bs→cs.map (Cell.conc ρ)=bs.map (bcV ρ)
 | [],bs,h=>by simp [Yv]at h;subst h;rfl
 | .ref id::r,bs,h=>by
  simp only [Yv,Option.map_eq_some_iff]at h
  obtain⟨l,hl,rfl⟩:=h
  rw [z6,z6,RN hl];rfl
 | .val v::r,bs,h=>by
  simp only [Yv,Option.map_eq_some_iff]at h
  obtain⟨l,hl,rfl⟩:=h
  rw [z6,z6,RN hl];rfl
 | .ptr _ _::_,bs,h=>by cases h
 | .el _ _ _ _::_,bs,h=>by cases h
 | .vw _ _ _::_,bs,h=>by cases h
 | .clo _ _::_,bs,h=>by cases h
 | .bnd _ _::_,bs,h=>by cases h
theorem Tm(c:Ctx B ρ s a w look ent A){fn:Fn}{first captured:Array Operand}(ho:o.op= .makeFunc fn first captured)(h:Se look A fn first captured=some r)(hC:lr B s ρ r o a K):o.wp P a w K Q:=by
 obtain⟨dst,op,ty,pos,after,guard⟩:=o
 simp only at ho;subst ho
 unfold Se at h
 split at h
 ·rename_i f x hf VJ
  have hfa:first= #[x]:=by rw [← w9 (xs:=first),hf]
  have hcv:=(KM c VJ).1
  have hca:captured.map a.eval= #[]:=by
   have:(captured.map a.eval).toList= []:=by rw [Array.toList_map];exact hcv
   rw [← w9 (xs:=captured.map a.eval),this]
  split at h
  ·rename_i cs hx
   split at h
   ·rename_i bs hbs
    cases h
    have pN:=(c.ev hx).1
    have hr: ∀ w,(execOp a.eval ⟨dst,.makeFunc (.func f) first captured,ty,pos,after,guard⟩).run P w= .ok (.value (.func (.func f) #[.agg (bs.map (bcV ρ)).toArray] #[])) w:=fun w=>by
     simp only [execOp,Instr.makeFunc,hfa,hca,List.map_toArray,z6,List.map_nil,pN,SV.conc,V1.conc,RN hbs]
     rfl
    exact az (hr w) (lr.same (v:=one (.bnd f bs)) rfl hC c.hp)
   ·cases h
  ·cases h
 ·rename_i f vs hf VJ
  have hfa:first= #[]:=by rw [← w9 (xs:=first),hf]
  have hcv:=(KM c VJ).1
  have hca:captured.map a.eval=(vs.map (SV.conc ρ)).toArray:=by
   rw [← hcv,← w9 (xs:=captured.map a.eval),Array.toList_map]
  have hr: ∀ w,(execOp a.eval ⟨dst,.makeFunc (.func f) first captured,ty,pos,after,guard⟩).run P w= .ok (.value (.func (.func f) #[] (vs.map (SV.conc ρ)).toArray)) w:=fun w=>by
   simp [execOp,Instr.makeFunc,hfa,hca]
  split at h
  ·cases h
   exact az (hr w) (lr.same (v:=one (.val (.func (.func f) #[] #[]))) rfl hC c.hp)
  ·split at h
   ·rename_i ids hids
    cases h
    refine az (hr w) ?_
    rw [VU hids]
    exact lr.same (v:=one (.clo f ids)) rfl hC c.hp
   ·cases h
 ·cases h
theorem abD(c:Ctx B ρ s a w look ent A){x:Operand}(h:vok look A x=true):vof look A x=a.eval x:=by
 unfold vok at h
 unfold vof
 cases he:SX.ev look A x with
 |none=>simp [he]at h
 |some v=>
  simp only [he]at h
  cases ht:v.toValue? with
  |none=>simp [ht]at h
  |some u=>rw [(c.ev he).1,SV.toValue?_conc ρ ht];simp only [ht]
theorem rm(c:Ctx B ρ s a w look ent A)(hsel: ∀ cs b,o.op≠ .select cs b)(h:DX P look A o=some r)(hC:lr B s ρ r o a K):o.wp P a w K Q:=by
 unfold DX at h
 cases KO:(DW o.op).all (vok look A)with
 |false=>simp [KO]at h
 |true=>
  simp only [KO,cond_true]at h
  have hcg:execOp a.eval o=execOp (vof look A) o:=execOp_congr o hsel fun x hx=>by
   have hm:=aar hx
   exact(abD c (List.all_eq_true.1 KO x hm)).symm
  split at h
  ·rename_i v hv
   cases h
   have hrun:=NY P _ _ hv w
   rw [← hcg]at hrun
   refine az hrun ?_
   have:=lr.same (v:= .ofValue v) rfl hC c.hp
   rwa [SV.conc_ofValue]at this
  ·cases h
end
end Go.SX
