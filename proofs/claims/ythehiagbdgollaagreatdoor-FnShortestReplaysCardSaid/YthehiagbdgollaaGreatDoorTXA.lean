import Derived.WalkKit
import Derived.KernelRfl
import Derived.Laws.AppendOwn
import Derived.Laws.MakeOwn
import Derived.Laws.OwnMore
import Derived.ArgAppend
set_option linter.unusedSimpArgs false
set_option linter.unusedVariables false
open Nat renaming eq_of_beq_eq_true → q8
open Option.some renaming injEq → q9
open Bool renaming and_eq_true → w3
open List renaming length_append → w4
open List renaming length_take → w5
open List renaming mem_append_right → w6
open Array renaming toArray_toList → w7
open List renaming mem_append → w8
open List renaming map_cons → w9
open List renaming getElem?_eq_some_iff → z6
open List renaming replicate → z7
open Prod.mk renaming injEq → z8
open Nat renaming le_of_ble_eq_true → j6
open List renaming mem_singleton → j7
open List renaming length_set → j8
namespace Go.SX
open Go.RowKit
inductive CTy where
 |int (k:IntKind)
 |bool
 |str
 |pair (a b:CTy)
 |sl (e:TypeId) (t:CTy)
 |fn
 deriving DecidableEq
def E:CTy→Type
 | .int _=>Int
 | .bool=>Bool
 | .str=>ByteArray
 | .pair a b=>E a×E b
 | .sl _ t=>List (E t)
 | .fn=>Unit
def CTy.size:CTy→Nat
 | .pair a b=>a.size + b.size
 |_=>1
structure GEnt where
 g:Nat
 T:TypeId
 e:TypeId
 t:CTy
 xs:List (E t)
def afx:List ByteArray:= [⟨#[97,114,114,105,118,101]⟩,⟨#[114,101,108,101,97,115,101]⟩,⟨#[98,108,105,110,100]⟩,⟨#[101,110,116,101,114]⟩,⟨#[99,108,101,97,114]⟩,⟨#[111,99,99,117,112,105,101,100]⟩,⟨#[115,101,99,111,110,100]⟩]
def alb:List Int:= [1,10,100,1000,10000,100000,1000000,10000000,100000000,1000000000,10000000000,100000000000,1000000000000,10000000000000,100000000000000,1000000000000000,10000000000000000,100000000000000000,1000000000000000000,10000000000000000000]
def GT:List GEnt:= [⟨0,146,9,.str,afx⟩,⟨1,192,173,.int .u64,alb⟩]
def GV:List Nat:= []
end Go.SX
namespace Go.SX
open Go.RowKit
def QO(P:Program){α:Type}:Sem α→Option α
 | .pure a=>some a
 | .program k=>QO P (k P)
 | .mark _ k=>QO P k
 |_=>none
theorem VI(P:Program){α:Type}: ∀ (s:Sem α) (v:α),QO P s=some v→ ∀ w,s.run P w= .ok v w
 | .pure a,v,h,w=>by simp [QO]at h;subst h;rfl
 | .program k,v,h,w=>by simp only [QO]at h;simp only [Sem.run];exact VI P _ v h w
 | .mark _ k,v,h,w=>by simp only [QO]at h;simp only [Sem.run];exact VI P _ v h w
 | .load ..,v,h,w | .store ..,v,h,w | .new ..,v,h,w | .shape ..,v,h,w | .freeze ..,v,h,w | .frozen ..,v,h,w | .getObj ..,v,h,w
 | .setObj ..,v,h,w | .choose ..,v,h,w | .sys ..,v,h,w | .halt _,v,h,w=>by simp [QO]at h
def HX:Value→Value
 | .slice a n c=> .slice a n c
 | .pointer a=> .pointer a
 | .func f a b=> .func f a b
 | .nilFunc=> .nilFunc
 | .map a=> .map a
 |_=> .slice none 0 0
def CTy.flat:CTy→Bool
 | .pair a b=>a.flat&&b.flat
 | .sl _ _=>false
 | .fn=>false
 |_=>true
def sW:(t:CTy)→E t
 | .int _=>(0:Int)
 | .bool=>false
 | .str=>ByteArray.empty
 | .pair a b=>(sW a,sW b)
 | .sl _ _=> []
 | .fn=>()
def ZV:(t:CTy)→E t→List Value
 | .int k,x=> [.int k x]
 | .bool,b=> [.bool b]
 | .str,s=> [.string s]
 | .pair a b,p=>ZV a p.1++ZV b p.2
 | .sl _ _,_=> [undef]
 | .fn,_=> [undef]
def XG(v:Value):Prop:=v= .slice none 0 0∨ ∃ a,v= .slice (some a) 0 0
def afI{α:Type}(p:List Value→α→Prop)(z:Nat)(H:Nat→Option Obj)(v:Value)(xs:List α):Prop:=
 (XG v∧xs= [])∨
 ∃ b off cap arr T fz,v= .slice (some ⟨b,off,none⟩) xs.length cap∧xs.length≤cap∧cap≤maxLen∧H b=some (.cells arr T fz)∧(∀ i x,xs[i]? =some x→p ((arr.toList.drop (off + i * z)).take z) x)
theorem afI.mono{α:Type}{p p':List Value→α→Prop}{z:Nat}{H H':Nat→Option Obj}(hp: ∀ cs x,p cs x→p' cs x)(h: ∀ b o,H b=some o→H' b=some o){v:Value}{xs:List α}(hr:afI p z H v xs):afI p' z H' v xs:=
 hr.imp id fun⟨b,off,cap,arr,T,fz,h1,h2,h3,h4,h5⟩=>⟨b,off,cap,arr,T,fz,h1,h2,h3,h _ _ h4,fun i x hx=>hp _ _ (h5 i x hx)⟩
def Rep(H:Nat→Option Obj):(t:CTy)→List Value→E t→Prop
 | .int k,cs,(x:Int)=>cs= [.int k x]
 | .bool,cs,(b:Bool)=>cs= [.bool b]
 | .str,cs,(s:ByteArray)=>cs= [.string s]
 | .pair a b,cs,(p:E a×E b)=> ∃ c1 c2,cs=c1++c2∧Rep H a c1 p.1∧Rep H b c2 p.2
 | .sl _ t,cs,(xs:List (E t))=> ∃ v,cs= [v]∧afI (Rep H t) t.size H v xs
 | .fn,cs,_=> ∃ v,cs= [v]∧HX v=v
theorem Rep.mono{H H':Nat→Option Obj}(h: ∀ b o,H b=some o→H' b=some o): ∀ (t:CTy) (cs:List Value) (x:E t),Rep H t cs x→Rep H' t cs x
 | .int _,_,_,hr=>by simp only [Rep]at hr ⊢;exact hr
 | .bool,_,_,hr=>by simp only [Rep]at hr ⊢;exact hr
 | .str,_,_,hr=>by simp only [Rep]at hr ⊢;exact hr
 | .pair a b,_,_,hr=>by
  simp only [Rep]at hr ⊢
  obtain⟨c1,c2,e,h1,h2⟩:=hr
  exact⟨c1,c2,e,Rep.mono h a _ _ h1,Rep.mono h b _ _ h2⟩
 | .sl _ t,_,_,hr=>by
  simp only [Rep]at hr ⊢
  obtain⟨v,e,hv⟩:=hr
  exact⟨v,e,hv.mono (Rep.mono h t) h⟩
 | .fn,_,_,hr=>by simp only [Rep]at hr ⊢;exact hr
def GO(H:Nat→Option Obj)(t:CTy)(v:Value)(xs:List (E t)):Prop:=afI (Rep H t) t.size H v xs
theorem GO.mono{H H':Nat→Option Obj}(h: ∀ b o,H b=some o→H' b=some o){t:CTy}{v:Value}{xs:List (E t)}(hr:GO H t v xs):GO H' t v xs:=
 afI.mono (Rep.mono h t) h hr
theorem Rep.flat{H:Nat→Option Obj}: ∀ (t:CTy) (cs:List Value) (x:E t),t.flat=true→Rep H t cs x→cs=ZV t x
 | .int _,_,_,_,h=>by simp only [Rep]at h;exact h
 | .bool,_,_,_,h=>by simp only [Rep]at h;exact h
 | .str,_,_,_,h=>by simp only [Rep]at h;exact h
 | .pair a b,_,_,hf,h=>by
  simp only [Rep]at h
  obtain⟨c1,c2,e,h1,h2⟩:=h
  simp only [CTy.flat,w3]at hf
  rw [e,Rep.flat a _ _ hf.1 h1,Rep.flat b _ _ hf.2 h2];rfl
 | .sl _ _,_,_,hf,_=>by cases hf
 | .fn,_,_,hf,_=>by cases hf
theorem Rep.of_flat{H:Nat→Option Obj}: ∀ (t:CTy) (x:E t),t.flat=true→Rep H t (ZV t x) x
 | .int _,_,_=>by simp only [Rep];rfl
 | .bool,_,_=>by simp only [Rep];rfl
 | .str,_,_=>by simp only [Rep];rfl
 | .pair a b,p,hf=>by
  simp only [CTy.flat,w3]at hf
  simp only [Rep]
  exact⟨_,_,rfl,Rep.of_flat a p.1 hf.1,Rep.of_flat b p.2 hf.2⟩
 | .sl _ _,_,hf=>by cases hf
 | .fn,_,hf=>by cases hf
def GlOk(mem:Nat→Option Obj):Prop:=(∀ x∈GT,x.xs.length≤maxLen∧ ∃ arr T fz,mem x.g=some (.cells arr T fz)∧arr.size=x.xs.length * x.t.size∧ ∀ i y,x.xs[i]? =some y→Rep mem x.t ((arr.toList.drop (i * x.t.size)).take x.t.size) y)∧ ∀ g∈GV,∃ T fz v,mem g=some (.cells #[v] T fz)∧(v= .nilIface∨ ∃ t p,v= .iface t p)
theorem GlOk.mono{H H':Nat→Option Obj}(h: ∀ b o,H b=some o→H' b=some o)(hg:GlOk H):GlOk H':=⟨fun x hx=>
 let ⟨h0,arr,T,fz,h1,hs,h2⟩:=hg.1 x hx
 ⟨h0,arr,T,fz,h _ _ h1,hs,fun i y hy=>Rep.mono h _ _ _ (h2 i y hy)⟩,fun g hx=>
 let ⟨T,fz,v,h1,h2⟩:=hg.2 g hx
 ⟨T,fz,v,h _ _ h1,h2⟩⟩
structure Nm where
 nm:Nat→Value
 mem:Nat→Option Obj
 fp:Nat→List Nat
def Nm.of(ρ:Nm)(i:Nat):Value:=HX (ρ.nm i)
instance:CoeFun Nm (fun _=>Nat→Value):=⟨Nm.of⟩
theorem HY(v:Value):HX (HX v)=HX v:=by cases v <;> rfl
theorem ZH(v:Value):(HX v).oneCell'=true:=by cases v <;> rfl
theorem acG(v:Value):(HX v).cells= #[HX v]:=by cases v <;> rfl
def Mv:Value→Nat
 | .pointer (some a)=>a.block
 | .slice (some a) _ _=>a.block
 |_=>0
def VB:Value→Nat
 | .slice (some a) _ _=>a.off
 |_=>0
def fB:Value→List Nat
 | .pointer (some a)=> [a.block]
 | .slice (some a) _ c=>bif Nat.beq c 0 then []else [a.block]
 | .map (some b)=> [b]
 |_=> []
theorem ZS{v:Value}(h:XG v):fB v= []:=by
 rcases h with rfl | ⟨b,rfl⟩ <;> rfl
theorem sn{a:Addr}{n c:Nat}(h:0 < c):fB (.slice (some a) n c)= [a.block]:=by
 cases c with
 |zero=>omega
 |succ c=>rfl
inductive Cell where
 |val (v:Value)
 |ptr (id off:Nat)
 |ref (id:Nat)
 |el (id z i off:Nat)
 |vw (id z k:Nat)
 |clo (f:FuncId) (caps:List Nat)
 |bnd (f:FuncId) (vs:List (Nat×Option Value))
def vwN(z k:Nat):Value→Value
 | .slice b n c=>if z=0 then .slice b k c else .slice (if c=k then b else b.map (·.add (k * z))) (n - k) (c - k)
 |v=>v
def bcV(ρ:Nm):Nat×Option Value→Value
 |(id,none)=>ρ id
 |(_,some v)=>v
def FD:List (Nat×Option Value)→List Nat
 | []=> []
 |(id,none)::r=>id::FD r
 |(_,some _)::r=>FD r
theorem ZQ{ρ ρ':Nm}: ∀ {vs:List (Nat×Option Value)},(∀ id∈FD vs,ρ' id=ρ id)→vs.map (bcV ρ')=vs.map (bcV ρ)
 | [],_=>rfl
 |(id,none)::r,h=>by
  rw [w9,w9,ZQ (vs:=r) fun i hi=>h i (List.mem_cons_of_mem _ hi)]
  simp only [bcV,h id (List.mem_cons_self ..)]
 |(id,some v)::r,h=>by
  rw [w9,w9,ZQ (vs:=r) fun i hi=>h i hi]
  rfl
def Cell.conc(ρ:Nm):Cell→Value
 | .val v=>v
 | .ptr id off=> .pointer (some ⟨Mv (ρ id),off,none⟩)
 | .ref id=>ρ id
 | .el id z i off=> .pointer (some ⟨Mv (ρ id),VB (ρ id) + (i * z + off),none⟩)
 | .vw id z k=>HX (vwN z k (ρ id))
 | .clo f caps=> .func (.func f) #[] (caps.map fun id=>Value.pointer (some ⟨Mv (ρ id),0,none⟩)).toArray
 | .bnd f vs=> .func (.func f) #[.agg (vs.map (bcV ρ)).toArray] #[]
def Cell.inU(U:Nat→Bool):Cell→Prop
 | .val _=>True
 | .ptr id _=>U id=true
 | .ref id=>U id=true
 | .el id _ _ _=>U id=true
 | .vw id _ _=>U id=true
 | .clo _ caps=> ∀ id∈caps,U id=true
 | .bnd _ vs=> ∀ id∈FD vs,U id=true
theorem Cell.conc_congr{ρ ρ':Nm}{U:Nat→Bool}(h: ∀ id,U id=true→ρ' id=ρ id){c:Cell}(hc:c.inU U):c.conc ρ'=c.conc ρ:=by
 cases c with
 |val v=>rfl
 |ptr id off=>simp only [Cell.conc];rw [h id hc]
 |ref id=>exact h id hc
 |el id z i off=>simp only [Cell.conc];rw [h id hc]
 |vw id z k=>simp only [Cell.conc];rw [h id hc]
 |clo f caps=>
  simp only [Cell.conc]
  rw [List.map_congr_left fun id jy=>by rw [h id (hc id jy)]]
 |bnd f vs=>
  simp only [Cell.conc]
  rw [ZQ fun id jy=>h id (hc id jy)]
theorem Cell.inU_mono{U U':Nat→Bool}(h: ∀ id,U id=true→U' id=true){c:Cell}(hc:c.inU U):c.inU U':=by
 cases c with
 |val v=>trivial
 |ptr id off=>exact h id hc
 |ref id=>exact h id hc
 |el id z i off=>exact h id hc
 |vw id z k=>exact h id hc
 |clo f caps=>exact fun id jy=>h id (hc id jy)
 |bnd f vs=>exact fun id jy=>h id (hc id jy)
structure V1 where
 agg:Bool
 cs:List Cell
def V1.conc(ρ:Nm)(v:V1):Value:=
 match v.agg,v.cs with
 |true,cs=> .agg (cs.map (Cell.conc ρ)).toArray
 |false,[c]=>c.conc ρ
 |false,_=>undef
def V1.inU(U:Nat→Bool)(v:V1):Prop:= ∀ c∈v.cs,c.inU U
theorem uQ{ρ ρ':Nm}{U:Nat→Bool}(h: ∀ id,U id=true→ρ' id=ρ id){cs:List Cell}(hc: ∀ c∈cs,c.inU U):cs.map (Cell.conc ρ')=cs.map (Cell.conc ρ):=
 List.map_congr_left fun c hm=>Cell.conc_congr h (hc c hm)
theorem V1.conc_congr{ρ ρ':Nm}{U:Nat→Bool}(h: ∀ id,U id=true→ρ' id=ρ id){v:V1}(hc:v.inU U):v.conc ρ'=v.conc ρ:=by
 obtain⟨g,cs⟩:=v
 cases g with
 |true=>simp only [V1.conc];rw [uQ h hc]
 |false=>
  match cs,hc with
  | [],_=>rfl
  | [c],hc=>exact Cell.conc_congr h (hc c (by simp))
  |_::_::_,_=>rfl
inductive SV where
 |one (v:V1)
 |tup (vs:List V1)
def SV.conc(ρ:Nm):SV→Value
 | .one v=>v.conc ρ
 | .tup vs=> .tuple (vs.map (V1.conc ρ)).toArray
def SV.inU(U:Nat→Bool):SV→Prop
 | .one v=>v.inU U
 | .tup vs=> ∀ v∈vs,v.inU U
theorem SV.conc_congr{ρ ρ':Nm}{U:Nat→Bool}(h: ∀ id,U id=true→ρ' id=ρ id){v:SV}(hc:v.inU U):v.conc ρ'=v.conc ρ:=by
 cases v with
 |one v=>exact V1.conc_congr h hc
 |tup vs=>simp only [SV.conc];rw [List.map_congr_left fun v hv=>V1.conc_congr h (hc v hv)]
theorem V1.inU_mono{U U':Nat→Bool}(h: ∀ id,U id=true→U' id=true){v:V1}(hc:v.inU U):v.inU U':=fun c hm=>Cell.inU_mono h (hc c hm)
theorem SV.inU_mono{U U':Nat→Bool}(h: ∀ id,U id=true→U' id=true){v:SV}(hc:v.inU U):v.inU U':=by
 cases v with
 |one v=>exact V1.inU_mono h hc
 |tup vs=>exact fun v hv=>V1.inU_mono h (hc v hv)
def V1.ofValue:Value→V1
 | .agg a=>⟨true,a.toList.map .val⟩
 |v=>⟨false,[.val v]⟩
def SV.ofValue:Value→SV
 | .tuple a=> .tup (a.toList.map V1.ofValue)
 |v=> .one (V1.ofValue v)
theorem V1.conc_ofValue(ρ:Nm)(v:Value):(V1.ofValue v).conc ρ=v:=by
 cases v with
 |agg a=>
  simp only [V1.ofValue,V1.conc,List.map_map]
  congr 1
  rw [show (Cell.conc ρ ∘ Cell.val)=id from rfl,List.map_id]
 |_=>rfl
theorem V1.ofValue_inU(U:Nat→Bool)(v:Value):(V1.ofValue v).inU U:=by
 cases v with
 |agg a=>intro c hc;simp only [V1.ofValue,List.mem_map]at hc;obtain⟨x,_,rfl⟩:=hc;trivial
 |_=>intro c hc;simp only [V1.ofValue,j7]at hc;subst hc;trivial
theorem SV.conc_ofValue(ρ:Nm)(v:Value):(SV.ofValue v).conc ρ=v:=by
 cases v with
 |tuple a=>
  simp only [SV.ofValue,SV.conc,List.map_map]
  congr 1
  rw [show (V1.conc ρ ∘ V1.ofValue)=id from funext fun v=>V1.conc_ofValue ρ v,List.map_id]
 |_=>simp only [SV.ofValue,SV.conc];exact V1.conc_ofValue ρ _
theorem SV.ofValue_inU(U:Nat→Bool)(v:Value):(SV.ofValue v).inU U:=by
 cases v with
 |tuple a=>intro u hu;simp only [List.mem_map]at hu;obtain⟨x,_,rfl⟩:=hu;exact V1.ofValue_inU U x
 |_=>simp only [SV.ofValue,SV.inU];exact V1.ofValue_inU U _
def Cell.toValue? :Cell→Option Value
 | .val v=>some v
 |_=>none
def SQ:List Cell→Option (List Value)
 | []=>some []
 |c::cs=>match c.toValue?,SQ cs with
  |some v,some vs=>some (v::vs)
  |_,_=>none
theorem OL(ρ:Nm): ∀ {cs:List Cell} {vs:List Value},SQ cs=some vs→cs.map (Cell.conc ρ)=vs
 | [],vs,h=>by simp [SQ]at h;simp [h]
 |c::cs,vs,h=>by
  simp only [SQ]at h
  split at h
  ·rename_i v vs' hv hvs
   cases h
   simp only [w9,OL ρ hvs]
   cases c with
   |val u=>simp [Cell.toValue?]at hv;simp [Cell.conc,hv]
   |_=>simp [Cell.toValue?]at hv
  ·cases h
def V1.toValue?(v:V1):Option Value:=
 match v.agg,v.cs with
 |true,cs=>(SQ cs).map fun vs=> .agg vs.toArray
 |false,[.val v]=>some v
 |_,_=>none
theorem V1.toValue?_conc(ρ:Nm){v:V1}{x:Value}(h:v.toValue? =some x):v.conc ρ=x:=by
 obtain⟨g,cs⟩:=v
 simp only [V1.toValue?]at h
 split at h
 ·cases hv:SQ cs with
  |none=>simp [hv]at h
  |some vs=>simp [hv]at h;subst h;simp only [V1.conc,OL ρ hv]
 ·cases h;rfl
 ·cases h
def SV.toValue? :SV→Option Value
 | .one v=>v.toValue?
 | .tup _=>none
theorem SV.toValue?_conc(ρ:Nm){v:SV}{x:Value}(h:v.toValue? =some x):v.conc ρ=x:=by
 cases v with
 |one v=>exact V1.toValue?_conc ρ h
 |tup vs=>simp [SV.toValue?]at h
structure SS where
 g:Option (Nat×Bool)
 v:SV
def yl(tmps:Array Value)(j:Nat):Option Bool:=
 match tmps[j]? with
 |some (.bool b)=>some b
 |_=>none
def SS.at(ρ:Nm)(tmps:Array Value)(x:SS):Value:=
 match x.g with
 |none=>x.v.conc ρ
 |some (j,b)=>if yl tmps j=some b then x.v.conc ρ else undef
inductive Entry where
 |box (T:TypeId) (cs:List Cell)
 |row (own:Bool) (e:TypeId) (t:CTy) (xs:List (E t))
 |tree (e:TypeId) (t:CTy) (xs:List (E t)) (hole:Option (Nat×List Cell))
 |wk (e:TypeId) (t:CTy) (xs:List (E t))
 |mp (ks:List ByteArray)
 |gone
structure St where
 look:Nat→Option SS
 ent:Nat→Option Entry
 used:Nat→Bool
 wr:Nat→Bool
 next:Nat
 log:List Nat
 logE:List Nat
structure Base where
 n:Nat
 w0:World
 mem:Nat→Option Obj
 sl:Nat→Option Value
 W:Nat→Bool
 hW: ∀ k,W k=true→k < n∧sl k=none
def jY(H:Nat→Option Obj)(t:CTy)(cs:List Value)(xs:List (E t)):Prop:=cs.length=xs.length * t.size∧ ∀ i x,xs[i]? =some x→Rep H t ((cs.drop (i * t.size)).take t.size) x
theorem jY.mono{H H':Nat→Option Obj}(h: ∀ b o,H b=some o→H' b=some o){t:CTy}{cs:List Value}{xs:List (E t)}(hr:jY H t cs xs):jY H' t cs xs:=
 ⟨hr.1,fun i x hx=>Rep.mono h _ _ _ (hr.2 i x hx)⟩
def CC(w:World)(e:TypeId)(z:Nat)(v:Value)(n:Nat)(cs:List Value):Prop:=cs.length=n * z∧((XG v∧n=0)∨ ∃ g cap cur,v= .slice (some ⟨g,0,none⟩) n cap∧0 < cap∧w.heap[g]? =some (.cells cur e (0,0))∧n≤cap∧cap≤maxLen∧cur.size=cap * z∧cur.toList.take (n * z)=cs)
theorem LU{w:World}{base:Nat}{e:TypeId}{z:Nat}{v:Value}{n:Nat}{cs:List Value}(h:w.ownsRow base e z v n cs):CC w e z v n cs:=by
 refine⟨h.1,?_⟩
 rcases h.2 with⟨h1,h2⟩ | ⟨g,cap,cur,h1,_,h2,h3,h4,h5,h6⟩
 ·exact .inl ⟨.inl h1,h2⟩
 ·by_cases hc:cap=0
  ·subst hc
   have:n=0:=by omega
   subst this
   exact .inl ⟨.inr ⟨_,h1⟩,rfl⟩
  ·exact .inr ⟨g,cap,cur,h1,by omega,h2,h3,h4,h5,h6⟩
theorem ahj{w:World}{e:TypeId}{z:Nat}{v:Value}{n:Nat}{cs:List Value}(h:CC w e z v n cs):(XG v∧n=0∧cs= [])∨(w.ownsRow 0 e z v n cs∧ ∃ g cap,v= .slice (some ⟨g,0,none⟩) n cap∧0 < cap):=by
 rcases h.2 with⟨h1,h2⟩ | ⟨g,cap,cur,h1,h0,h2,h3,h4,h5,h6⟩
 ·refine .inl ⟨h1,h2,List.length_eq_zero_iff.1 ?_⟩
  rw [h.1,h2,Nat.zero_mul]
 ·exact .inr ⟨⟨h.1,.inr ⟨g,cap,cur,h1,Nat.zero_le _,h2,h3,h4,h5,h6⟩⟩,g,cap,h1,h0⟩
theorem Sm(w:World)(e:TypeId)(z:Nat):CC w e z (.slice none 0 0) 0 []:=⟨by simp,.inl ⟨.inl rfl,rfl⟩⟩
def qr(w:World):(t:CTy)→List Value→E t→List Nat→Prop
 | .int k,cs,(x:Int),L=>cs= [.int k x]∧L= []
 | .bool,cs,(b:Bool),L=>cs= [.bool b]∧L= []
 | .str,cs,(s:ByteArray),L=>cs= [.string s]∧L= []
 | .pair a b,cs,(p:E a×E b),L=> ∃ c1 c2 L1 L2,cs=c1++c2∧L=L1++L2∧qr w a c1 p.1 L1∧qr w b c2 p.2 L2∧ ∀ k∈L1,k∉L2
 | .sl e t,cs,(xs:List (E t)),L=> ∃ v ds,cs= [v]∧L=fB v∧t.flat=true∧CC w e t.size v xs.length ds∧jY (fun _=>none) t ds xs
 | .fn,cs,_,L=>(∃ v,cs= [v]∧HX v=v)∧L= []
def Of(w:World)(ρ:Nm)(t:CTy)(cs:List Value)(xs:List (E t))(Ls:List (List Nat))(h:Option (Nat×List Cell)):Prop:=Ls.length=xs.length∧(∀ k hc,h=some (k,hc)→k < xs.length∧Ls[k]? =some []∧(cs.drop (k * t.size)).take t.size=hc.map (Cell.conc ρ))∧(∀ i x l,(∀ k hc,h=some (k,hc)→i≠k)→xs[i]? =some x→Ls[i]? =some l→qr w t ((cs.drop (i * t.size)).take t.size) x l)∧(∀ (i j:Nat) l l' k,Ls[i]? =some l→Ls[j]? =some l'→k∈l→k∈l'→i=j)
def qo{α:Type}:List (List α)→List α
 | []=> []
 |a::r=>a++qo r
theorem nS{α:Type}{i:α}: ∀ {l:List (List α)},i∈qo l↔ ∃ (k:Nat) (x:List α),l[k]? =some x∧i∈x
 | []=>by simp [qo]
 |a::r=>by
  simp only [qo,w8,nS (l:=r)]
  constructor
  ·rintro(h | ⟨k,x,h1,h2⟩)
   ·exact⟨0,a,rfl,h⟩
   ·exact⟨k + 1,x,h1,h2⟩
  ·rintro⟨k,x,h1,h2⟩
   cases k with
   |zero=>simp at h1;subst h1;exact .inl h2
   |succ k=>exact .inr ⟨k,x,h1,h2⟩
def ac3(w:World)(b:Nat):Option Obj:=
 match w.heap[b]? with
 |some (.cells a T (0,0))=>some (.cells a T (0,0))
 |_=>none
def unf(o:Obj):Prop:= ∃ a T,o= .cells a T (0,0)
theorem VL{w:World}{b:Nat}{o:Obj}:ac3 w b=some o↔w.heap[b]? =some o∧unf o:=by
 unfold ac3
 constructor
 ·intro h
  split at h
  ·rename_i a T hb;cases h;exact⟨hb,a,T,rfl⟩
  ·cases h
 ·rintro⟨h,a,T,rfl⟩
  simp [h]
theorem aj7{w w':World}{t:CTy}{v:Value}{xs:List (E t)}(hf:t.flat=true)(h:GO (ac3 w) t v xs)(hk: ∀ b∈fB v,w'.heap[b]? =w.heap[b]?):GO (ac3 w') t v xs:=by
 rcases h with h | ⟨b,off,cap,arr,T,fz,h1,h2,h3,h4,h5⟩
 ·exact .inl h
 ·by_cases hc:cap=0
  ·subst hc
   have hn:xs.length=0:=by omega
   exact .inl ⟨.inr ⟨_,by rw [h1,hn]⟩,List.length_eq_zero_iff.1 hn⟩
  ·refine .inr ⟨b,off,cap,arr,T,fz,h1,h2,h3,?_,fun i x hx=> ?_⟩
   ·obtain⟨g1,g2⟩:=VL.1 h4
    exact VL.2 ⟨by rw [hk b (by rw [h1,sn (by omega)];simp)];exact g1,g2⟩
   ·rw [Rep.flat t _ _ hf (h5 i x hx)]
    exact Rep.of_flat t x hf
theorem ajf{w:World}{t:CTy}{v:Value}{xs:List (E t)}(h:GO (ac3 w) t v xs){b:Nat}(hb:b∈fB v): ∃ o,w.heap[b]? =some o∧unf o:=by
 rcases h with⟨h,_⟩ | ⟨b',off,cap,arr,T,fz,h1,h2,h3,h4,h5⟩
 ·rw [ZS h]at hb;cases hb
 ·rw [h1]at hb
  have hbb:b=b':=by
   simp only [fB]at hb
   cases hq:Nat.beq cap 0 with
   |true=>rw [hq]at hb;cases hb
   |false=>rw [hq]at hb;simpa using hb
  subst hbb
  exact⟨_,VL.1 h4⟩
def Entry.holds(B:Base)(ρ:Nm)(w:World)(id:Nat):Entry→Prop
 | .box T cs=> ∃ b,ρ id= .pointer (some ⟨b,0,none⟩)∧w.heap[b]? =some (.cells (cs.map (Cell.conc ρ)).toArray T (0,0))∧B.mem b=none∧ρ.mem b=none
 | .row false _ t xs=>GO ρ.mem t (ρ id) xs
 | .row true e t xs=> ∃ cs,CC w e t.size (ρ id) xs.length cs∧jY ρ.mem t cs xs∧ ∀ b∈fB (ρ id),B.mem b=none∧ρ.mem b=none
 | .tree e t xs h=> ∃ cs Ls,CC w e t.size (ρ id) xs.length cs∧Of w ρ t cs xs Ls h∧ρ.fp id=qo Ls∧(∀ b∈fB (ρ id),b∉ρ.fp id)∧ ∀ b∈fB (ρ id)++ρ.fp id,B.mem b=none∧ρ.mem b=none
 | .wk _ t xs=>t.flat=true∧GO (ac3 w) t (ρ id) xs∧ ∀ b∈fB (ρ id),B.mem b=none∧ρ.mem b=none
 | .mp ks=> ∃ b es clock,ρ id= .map (some b)∧w.heap[b]? =some (.map es clock)∧(es.toList.map fun e=>(e.key,e.val))=(ks.map fun k=>(Value.string k,Value.bool true))∧B.mem b=none∧ρ.mem b=none
 | .gone=>True
def Entry.ob(ρ:Nm)(id:Nat):Entry→List Nat
 | .box _ _=>fB (ρ id)
 | .row true _ _ _=>fB (ρ id)
 | .tree _ _ _ _=>fB (ρ id)++ρ.fp id
 | .wk _ _ _=>fB (ρ id)
 | .mp _=>fB (ρ id)
 |_=> []
def Entry.inU(U:Nat→Bool):Entry→Prop
 | .box _ cs=> ∀ c∈cs,c.inU U
 | .tree _ _ _ (some (_,cs))=> ∀ c∈cs,c.inU U
 |_=>True
structure Frm (B:Base) (ρ:Nm) (w:World):Prop where
 os:w.os=B.w0.os
 tape:w.tape=B.w0.tape
 output:w.output=B.w0.output
 size:B.w0.heap.size≤w.heap.size
 mem: ∀ b o,B.mem b=some o→w.heap[b]? =some o
 dat: ∀ b o,ρ.mem b=some o→w.heap[b]? =some o
 gl:GlOk ρ.mem
structure Ext (B:Base) (U:Nat→Bool) (ρ ρ':Nm):Prop where
 nm: ∀ id,U id=true→ρ' id=ρ id
 old: ∀ b o,ρ.mem b=some o→ρ'.mem b=some o
 new: ∀ b o,ρ'.mem b=some o→ρ.mem b=some o∨(B.mem b=none∧unf o)
theorem Ext.refl(B:Base)(U:Nat→Bool)(ρ:Nm):Ext B U ρ ρ:=⟨fun _ _=>rfl,fun _ _ h=>h,fun _ _ h=> .inl h⟩
theorem Ext.trans{B:Base}{U U':Nat→Bool}{ρ ρ' ρ'':Nm}(h:Ext B U ρ ρ')(h':Ext B U' ρ' ρ'')(hU: ∀ id,U id=true→U' id=true):Ext B U ρ ρ'':=
 ⟨fun id jy=>(h'.nm id (hU id jy)).trans (h.nm id jy),fun b o hb=>h'.old b o (h.old b o hb),fun b o hb=>(h'.new b o hb).elim (h.new b o) .inr⟩
theorem Ext.sub{B:Base}{U U':Nat→Bool}{ρ ρ':Nm}(h:Ext B U' ρ ρ')(hU: ∀ id,U id=true→U' id=true):Ext B U ρ ρ':=
 ⟨fun id jy=>h.nm id (hU id jy),h.old,h.new⟩
structure Hp (B:Base) (ρ:Nm) (ent:Nat→Option Entry) (used:Nat→Bool) (w:World):Prop where
 he: ∀ id e,ent id=some e→e.holds B ρ w id∧used id=true∧e.inU used
 hi: ∀ id id' e e' b,ent id=some e→ent id'=some e'→b∈e.ob ρ id→b∈e'.ob ρ id'→id=id'
 hf:Frm B ρ w
structure Mdl (B:Base) (ρ:Nm) (s:St) (a:Act) (w:World):Prop where
 hd:a.defers= []
 hn:a.tmps.size=B.n
 hs: ∀ k x,s.look k=some x→a.tmps[k]? =some (x.at ρ a.tmps)
 hg: ∀ k x j b,s.look k=some x→x.g=some (j,b)→s.wr j=true
 hu: ∀ k x,s.look k=some x→x.v.inU s.used
 hp:Hp B ρ s.ent s.used w
 hl: ∀ k v,B.sl k=some v→a.tmps[k]? =some v
theorem akY{a:Act}{k:Nat}{v:Value}{j:Nat}(h:j≠k):yl (a.put (some k) v).tmps j=yl a.tmps j:=by
 simp only [yl,Act.put,Array.getElem?_setIfInBounds_ne (Ne.symm h)]
theorem SS.at_congr{ρ ρ':Nm}{U:Nat→Bool}{t t':Array Value}{x:SS}(h: ∀ id,U id=true→ρ' id=ρ id)(hc:x.v.inU U)(hy: ∀ j b,x.g=some (j,b)→yl t' j=yl t j):x.at ρ' t'=x.at ρ t:=by
 obtain⟨g,v⟩:=x
 cases g with
 |none=>exact SV.conc_congr h hc
 |some p=>obtain⟨j,b⟩:=p;simp only [SS.at,hy j b rfl,SV.conc_congr h hc]
end Go.SX
namespace Go.SX
open Go.RowKit
theorem Mdl.he{B:Base}{ρ:Nm}{s:St}{a:Act}{w:World}(h:Mdl B ρ s a w): ∀ id e,s.ent id=some e→e.holds B ρ w id∧s.used id=true∧e.inU s.used:=h.hp.he
def memB(w0:World)(mem:Nat→Option Obj):Base:=⟨0,w0,mem,fun _=>none,fun _=>false,fun _ h=>by cases h⟩
def HpL(w0:World)(mem:Nat→Option Obj)(es:List Entry)(ρ:Nm)(w:World):Prop:=Hp (memB w0 mem) ρ (fun i=>es[i]?) (fun i=>Nat.blt i es.length) w
structure Out where
 res:SV
 es:List Entry
 new:List Entry
 nd:List Bool
structure PF (P:Program) where
 k:FuncId
 F:List SV→List Entry→Option Out
 ok: ∀ args es o,F args es=some o→(∀ b∈o.nd,b=true)→ ∀ (mem:Nat→Option Obj) (ρ:Nm) (w:World),HpL w mem es ρ w→
  Calls P k (args.map (SV.conc ρ)).toArray w fun e w'=> ∃ ρ':Nm,Ext (memB w mem) (fun i=>Nat.blt i es.length) ρ ρ'∧e= .returned (o.res.conc ρ')∧o.es.length=es.length∧
   o.res.inU (fun i=>Nat.blt i (o.es++o.new).length)∧HpL w mem (o.es++o.new) ρ' w'
 keep:List Nat:= []
 hk: ∀ args es o,F args es=some o→(∀ b∈o.nd,b=true)→ ∀ i∈keep,o.es[i]? =es[i]? :=by intro _ _ _ _ _ _ h;cases h
def PF.kept{P:Program}(p:PF P)(l:List Nat)(h: ∀ args es o,p.F args es=some o→ ∀ i∈l,o.es[i]? =es[i]?):PF P where
 k:=p.k
 F:=p.F
 ok:=p.ok
 keep:=l
 hk:=fun args es o ho _=>h args es o ho
def PF.mark(P:Program):PF P where
 k:=999999
 F:=fun _ _=>none
 ok:=fun _ _ _ h=>by cases h
def PF.marked{P:Program}:List (PF P)→Bool
 | []=>false
 |p::_=>Nat.beq p.k 999999
def PF.treed{P:Program}:List (PF P)→Bool
 | []=>false
 |p::r=>Nat.beq p.k 999998||(Nat.beq p.k 999999&&(match r with | q::_=>Nat.beq q.k 999998 | []=>false))
def PF.take(P:Program):PF P where
 k:=999995
 F:=fun _ _=>none
 ok:=fun _ _ _ h=>by cases h
def PF.takes{P:Program}:List (PF P)→Bool
 |_::q::_=>Nat.beq q.k 999995
 |_=>false
def SW{P:Program}:List (PF P)→FuncId→List SV→List Entry→Option (Out×List Nat)
 | [],_,_,_=>none
 |p::r,k,args,es=>bif Nat.beq p.k k then(match p.F args es with | some o=>some (o,p.keep) | none=>SW r k args es)else SW r k args es
theorem ZU{P:Program}: ∀ {l:List (PF P)} {k:FuncId} {args:List SV} {es:List Entry} {o:Out} {kp:List Nat},SW l k args es=some (o,kp)→(∀ b∈o.nd,b=true)→ ∀ (mem:Nat→Option Obj) (ρ:Nm) (w:World),HpL w mem es ρ w→
  Calls P k (args.map (SV.conc ρ)).toArray w fun e w'=> ∃ ρ':Nm,Ext (memB w mem) (fun i=>Nat.blt i es.length) ρ ρ'∧e= .returned (o.res.conc ρ')∧o.es.length=es.length∧
   o.res.inU (fun i=>Nat.blt i (o.es++o.new).length)∧HpL w mem (o.es++o.new) ρ' w'
 | [],k,args,es,o,kp,h=>by simp [SW]at h
 |p::r,k,args,es,o,kp,h=>by
  simp only [SW]at h
  cases hq:Nat.beq p.k k with
  |true=>
   simp only [hq,cond_true]at h
   have hk:=q8 hq
   split at h
   ·rename_i o' ho'
    cases h
    subst hk
    exact p.ok _ _ _ ho'
   ·exact ZU h
  |false=>simp only [hq,cond_false]at h;exact ZU h
theorem Vc{P:Program}: ∀ {l:List (PF P)} {k:FuncId} {args:List SV} {es:List Entry} {o:Out} {kp:List Nat},SW l k args es=some (o,kp)→(∀ b∈o.nd,b=true)→ ∀ i∈kp,o.es[i]? =es[i]?
 | [],k,args,es,o,kp,h=>by simp [SW]at h
 |p::r,k,args,es,o,kp,h=>by
  simp only [SW]at h
  cases hq:Nat.beq p.k k with
  |true=>
   simp only [hq,cond_true]at h
   split at h
   ·rename_i o' ho'
    cases h
    exact p.hk _ _ _ ho'
   ·exact Vc h
  |false=>simp only [hq,cond_false]at h;exact Vc h
def look?{α:Type}:List (Nat×α)→Nat→Option α
 | [],_=>none
 |p::r,k=>bif Nat.beq p.1 k then some p.2 else look? r k
def memN:List Nat→Nat→Bool
 | [],_=>false
 |p::r,k=>bif Nat.beq p k then true else memN r k
structure Raw where
 v:SV
 es:List (Nat×Entry)
 new:List Nat
 nd:List Bool
def aZ(ent:Nat→Option Entry)(es:List (Nat×Entry)):Nat→Option Entry:=fun i=>match look? es i with | some e=>some e | none=>ent i
def bk(used:Nat→Bool)(new:List Nat):Nat→Bool:=fun i=>bif memN new i then true else used i
def ev(look:Nat→Option SS)(A:List (Nat×Bool)):Operand→Option SV
 | .tmp t=>match look t with
  |some ⟨none,v⟩=>some v
  |some ⟨some p,v⟩=>bif A.any (fun q=>Nat.beq q.1 p.1&&q.2==p.2)then some v else none
  |none=>none
 | .const v=>some (.ofValue v)
 | .func f=>some (.one ⟨false,[.val (.func (.func f) #[] #[])]⟩)
 | .global _=>none
def asm(s:St):Nat→Option (Nat×Bool)→List (Nat×Bool)
 |_,none=> []
 |0,some _=> []
 |f + 1,some p=>p::asm s f (match s.look p.1 with | some x=>x.g | none=>none)
theorem ZP{B:Base}{ρ:Nm}{s:St}{a:Act}{w:World}(hM:Mdl B ρ s a w): ∀ (f:Nat) (g:Option (Nat×Bool)),(∀ p,g=some p→yl a.tmps p.1=some p.2)→ ∀ q∈asm s f g,yl a.tmps q.1=some q.2
 |_,none,_,q,hq=>by cases ‹Nat› <;> simp [asm]at hq
 |0,some p,_,q,hq=>by simp [asm]at hq
 |f + 1,some p,h,q,hq=>by
  simp only [asm,List.mem_cons]at hq
  rcases hq with rfl | hq
  ·exact h _ rfl
  ·refine ZP hM f _ (fun p' hp'=> ?_) q hq
   cases hx:s.look p.1 with
   |none=>simp [hx]at hp'
   |some x=>
    simp only [hx]at hp'
    have hs:=hM.hs _ _ hx
    have hy:=h p rfl
    simp only [yl,hs]at hy
    obtain⟨g,v⟩:=x
    simp only at hp'
    subst hp'
    simp only [SS.at]at hy
    split at hy
    ·rename_i Lq
     split at Lq
     ·assumption
     ·simp [undef]at Lq
    ·cases hy
theorem abt{B:Base}{ρ:Nm}{s:St}{a:Act}{w:World}(hM:Mdl B ρ s a w){look:Nat→Option SS}(hL: ∀ k x,look k=some x→s.look k=some x){A:List (Nat×Bool)}(hA: ∀ q∈A,yl a.tmps q.1=some q.2){x:Operand}{v:SV}(h:ev look A x=some v):a.eval x=v.conc ρ:=by
 cases x with
 |tmp t=>
  simp only [ev]at h
  cases hx:look t with
  |none=>simp [hx]at h
  |some x=>
   have hs:=hM.hs _ _ (hL _ _ hx)
   obtain⟨g,u⟩:=x
   simp only [hx]at h
   cases g with
   |none=>
    simp at h;subst h
    simp [Act.eval,hs,SS.at]
   |some p=>
    simp only at h
    cases hb:A.any (fun q=>Nat.beq q.1 p.1&&q.2==p.2)with
    |false=>simp [hb]at h
    |true=>
     simp [hb]at h;subst h
     obtain⟨q,hq,hqp⟩:=List.any_eq_true.1 hb
     simp only [w3,beq_iff_eq]at hqp
     have h1:=q8 hqp.1
     have:=hA q hq
     rw [h1,hqp.2]at this
     simp [Act.eval,hs,SS.at,this]
 |const v'=>simp only [ev,q9]at h;subst h;simp [Act.eval,SV.conc_ofValue]
 |func f=>simp only [ev,q9]at h;subst h;rfl
 |global g=>simp [ev]at h
theorem akr{B:Base}{ρ:Nm}{s:St}{a:Act}{w:World}(hM:Mdl B ρ s a w){look:Nat→Option SS}(hL: ∀ k x,look k=some x→s.look k=some x){A:List (Nat×Bool)}{x:Operand}{v:SV}(h:ev look A x=some v):v.inU s.used:=by
 cases x with
 |tmp t=>
  simp only [ev]at h
  cases hx:look t with
  |none=>simp [hx]at h
  |some x=>
   have hs:=hM.hu _ _ (hL _ _ hx)
   obtain⟨g,u⟩:=x
   simp only [hx]at h
   cases g with
   |none=>simp at h;subst h;exact hs
   |some p=>
    simp only at h
    cases hb:A.any (fun q=>Nat.beq q.1 p.1&&q.2==p.2)with
    |false=>simp [hb]at h
    |true=>simp [hb]at h;subst h;exact hs
 |const v'=>simp only [ev,q9]at h;subst h;exact SV.ofValue_inU _ _
 |func f=>simp only [ev,q9]at h;subst h;intro c hc;simp only [j7]at hc;subst hc;trivial
 |global g=>simp [ev]at h
def Ps(c:Bool):Value→Value→Option Value
 | .int k x,.int k' y=>if k=k' then some (.int k (cond c x y))else none
 | .bool x,.bool y=>some (.bool (cond c x y))
 | .string x,.string y=>some (.string (cond c x y))
 |_,_=>none
theorem Vv{c:Bool}{a b v:Value}(h:Ps c a b=some v):v=cond c a b:=by
 unfold Ps at h
 split at h
 ·split at h
  ·rename_i hk;subst hk;cases h;cases c <;> rfl
  ·cases h
 ·cases h;cases c <;> rfl
 ·cases h;cases c <;> rfl
 ·cases h
def Kq(c:Bool):List (Nat×Option Value)→List (Nat×Option Value)→Option (List (Nat×Option Value))
 | [],[]=>some []
 |(i,none)::r,(j,none)::r'=>bif Nat.beq i j then(Kq c r r').map ((i,none):: ·)else none
 |(i,some v)::r,(_,some v')::r'=>match Ps c v v',Kq c r r' with
  |some u,some us=>some ((i,some u)::us)
  |_,_=>none
 |_,_=>none
theorem LR(ρ:Nm){c:Bool}: ∀ {as bs vs:List (Nat×Option Value)},Kq c as bs=some vs→vs.map (bcV ρ)=cond c (as.map (bcV ρ)) (bs.map (bcV ρ))∧FD vs=FD as∧FD vs=FD bs
 | [],[],vs,h=>by simp [Kq]at h;subst h;cases c <;> exact⟨rfl,rfl,rfl⟩
 |(i,none)::r,(j,none)::r',vs,h=>by
  simp only [Kq]at h
  cases hb:Nat.beq i j with
  |false=>simp [hb]at h
  |true=>
   have:=q8 hb;subst this
   cases hm:Kq c r r' with
   |none=>simp [hb,hm]at h
   |some us=>
    simp [hb,hm]at h;subst h
    obtain⟨h1,h2,h3⟩:=LR ρ hm
    refine⟨?_,by simp only [FD,h2],by simp only [FD,h3]⟩
    simp only [w9,h1,bcV];cases c <;> rfl
 |(i,some v)::r,(j,some v')::r',vs,h=>by
  simp only [Kq]at h
  split at h
  ·rename_i u us hu hus
   cases h
   obtain⟨h1,h2,h3⟩:=LR ρ hus
   refine⟨?_,by simp only [FD,h2],by simp only [FD,h3]⟩
   simp only [w9,h1,bcV,Vv hu];cases c <;> rfl
  ·cases h
 | [],_::_,vs,h=>by simp [Kq]at h
 |_::_,[],vs,h=>by
  rename_i x l
  obtain⟨i,o⟩:=x;cases o <;> simp [Kq]at h
 |(i,none)::r,(j,some v)::r',vs,h=>by simp [Kq]at h
 |(i,some v)::r,(j,none)::r',vs,h=>by simp [Kq]at h
def MX(c:Bool):Cell→Cell→Option Cell
 | .val a,.val b=>(Ps c a b).map .val
 | .ptr i o,.ptr i' o'=>bif Nat.beq i i'&&Nat.beq o o' then some (.ptr i o)else none
 | .ref i,.ref i'=>bif Nat.beq i i' then some (.ref i)else none
 | .bnd f vs,.bnd f' vs'=>bif Nat.beq f f' then(Kq c vs vs').map (.bnd f)else none
 |_,_=>none
theorem abc(ρ:Nm){c:Bool}{a b v:Cell}(h:MX c a b=some v):v.conc ρ=cond c (a.conc ρ) (b.conc ρ):=by
 unfold MX at h
 split at h
 ·rename_i x y
  cases hm:Ps c x y with
  |none=>simp [hm]at h
  |some u=>simp [hm]at h;subst h;simp only [Cell.conc];exact Vv hm
 ·rename_i i o i' o'
  cases hb:(Nat.beq i i'&&Nat.beq o o')with
  |false=>simp [hb]at h
  |true=>
   simp [hb]at h;subst h
   simp only [w3]at hb
   rw [q8 hb.1,q8 hb.2];cases c <;> rfl
 ·rename_i i i'
  cases hb:Nat.beq i i' with
  |false=>simp [hb]at h
  |true=>
   simp [hb]at h;subst h
   rw [q8 hb];cases c <;> rfl
 ·rename_i f vs f' vs'
  cases hb:Nat.beq f f' with
  |false=>simp [hb]at h
  |true=>
   cases hm:Kq c vs vs' with
   |none=>simp [hb,hm]at h
   |some us=>
    simp [hb,hm]at h;subst h
    have:=q8 hb;subst this
    simp only [Cell.conc,(LR ρ hm).1];cases c <;> rfl
 ·cases h
theorem acU{U:Nat→Bool}{c:Bool}{a b v:Cell}(ha:a.inU U)(h:MX c a b=some v):v.inU U:=by
 unfold MX at h
 split at h
 ·rename_i x y
  cases hm:Ps c x y with
  |none=>simp [hm]at h
  |some u=>simp [hm]at h;subst h;trivial
 ·rename_i i o i' o'
  cases hb:(Nat.beq i i'&&Nat.beq o o')with
  |false=>simp [hb]at h
  |true=>simp [hb]at h;subst h;exact ha
 ·rename_i i i'
  cases hb:Nat.beq i i' with
  |false=>simp [hb]at h
  |true=>simp [hb]at h;subst h;exact ha
 ·rename_i f vs f' vs'
  cases hb:Nat.beq f f' with
  |false=>simp [hb]at h
  |true=>
   cases hm:Kq c vs vs' with
   |none=>simp [hb,hm]at h
   |some us=>
    simp [hb,hm]at h;subst h
    intro id jy
    rw [(LR ⟨fun _=> .slice none 0 0,fun _=>none,fun _=> []⟩ hm).2.1]at jy
    exact ha id jy
 ·cases h
def kq(c:Bool):List Cell→List Cell→Option (List Cell)
 | [],[]=>some []
 |a::as,b::bs=>match MX c a b,kq c as bs with
  |some x,some xs=>some (x::xs)
  |_,_=>none
 |_,_=>none
theorem yZ(ρ:Nm){c:Bool}: ∀ {as bs vs:List Cell},kq c as bs=some vs→vs.map (Cell.conc ρ)=cond c (as.map (Cell.conc ρ)) (bs.map (Cell.conc ρ))∧vs.length=as.length∧vs.length=bs.length
 | [],[],vs,h=>by simp [kq]at h;subst h;cases c <;> exact⟨rfl,rfl,rfl⟩
 | [],_::_,vs,h=>by simp [kq]at h
 |_::_,[],vs,h=>by simp [kq]at h
 |a::as,b::bs,vs,h=>by
  simp only [kq]at h
  split at h
  ·rename_i x xs hx hxs
   cases h
   obtain⟨h1,h2,h3⟩:=yZ ρ hxs
   have h0:=abc ρ hx
   refine⟨?_,by simp [h2],by simp [h3]⟩
   simp only [w9,h0,h1];cases c <;> rfl
  ·cases h
theorem LS{U:Nat→Bool}{c:Bool}: ∀ {as bs vs:List Cell},(∀ x∈as,x.inU U)→kq c as bs=some vs→ ∀ x∈vs,x.inU U
 | [],[],vs,_,h=>by simp [kq]at h;subst h;simp
 | [],_::_,vs,_,h=>by simp [kq]at h
 |_::_,[],vs,_,h=>by simp [kq]at h
 |a::as,b::bs,vs,ha,h=>by
  simp only [kq]at h
  split at h
  ·rename_i x xs hx hxs
   cases h
   intro y hy
   rcases List.mem_cons.1 hy with rfl | hy
   ·exact acU (ha _ (by simp)) hx
   ·exact LS (fun z hz=>ha z (by simp [hz])) hxs y hy
  ·cases h
def JI(c:Bool)(a b:V1):Option V1:=
 match a.agg,b.agg with
 |true,true=>(kq c a.cs b.cs).map (⟨true,·⟩)
 |false,false=>(kq c a.cs b.cs).map (⟨false,·⟩)
 |_,_=>none
theorem XA(ρ:Nm){c:Bool}{a b v:V1}(h:JI c a b=some v):v.conc ρ=cond c (a.conc ρ) (b.conc ρ):=by
 obtain⟨ga,as⟩:=a
 obtain⟨gb,bs⟩:=b
 unfold JI at h
 split at h
 ·rename_i e1 e2
  simp only at e1 e2 h;subst e1 e2
  cases hm:kq c as bs with
  |none=>simp [hm]at h
  |some u=>simp [hm]at h;subst h;simp only [V1.conc,(yZ ρ hm).1];cases c <;> rfl
 ·rename_i e1 e2
  simp only at e1 e2 h;subst e1 e2
  cases hm:kq c as bs with
  |none=>simp [hm]at h
  |some u=>
   simp [hm]at h;subst h
   obtain⟨h1,h2,h3⟩:=yZ ρ hm
   match u,as,bs,h1,h2,h3 with
   | [],[],[],_,_,_=>cases c <;> rfl
   | [x],[y],[z],h1,_,_=>simp only [V1.conc];cases c <;> simpa using h1
   |_::_::_,_::_::_,_::_::_,_,_,_=>cases c <;> rfl
 ·cases h
theorem aaX{U:Nat→Bool}{c:Bool}{a b v:V1}(ha:a.inU U)(h:JI c a b=some v):v.inU U:=by
 unfold JI at h
 split at h
 all_goals first
  |cases h
  |(cases hm:kq c a.cs b.cs with
    |none=>simp [hm]at h
    |some u=>simp [hm]at h;subst h;exact LS ha hm)
def uR(c:Bool):List V1→List V1→Option (List V1)
 | [],[]=>some []
 |a::as,b::bs=>match JI c a b,uR c as bs with
  |some x,some xs=>some (x::xs)
  |_,_=>none
 |_,_=>none
theorem Vu(ρ:Nm){c:Bool}: ∀ {as bs vs:List V1},uR c as bs=some vs→vs.map (V1.conc ρ)=cond c (as.map (V1.conc ρ)) (bs.map (V1.conc ρ))
 | [],[],vs,h=>by simp [uR]at h;subst h;cases c <;> rfl
 | [],_::_,vs,h=>by simp [uR]at h
 |_::_,[],vs,h=>by simp [uR]at h
 |a::as,b::bs,vs,h=>by
  simp only [uR]at h
  split at h
  ·rename_i x xs hx hxs
   cases h
   simp only [w9,XA ρ hx,Vu ρ hxs];cases c <;> rfl
  ·cases h
theorem Zr{U:Nat→Bool}{c:Bool}: ∀ {as bs vs:List V1},(∀ x∈as,x.inU U)→uR c as bs=some vs→ ∀ x∈vs,x.inU U
 | [],[],vs,_,h=>by simp [uR]at h;subst h;simp
 | [],_::_,vs,_,h=>by simp [uR]at h
 |_::_,[],vs,_,h=>by simp [uR]at h
 |a::as,b::bs,vs,ha,h=>by
  simp only [uR]at h
  split at h
  ·rename_i x xs hx hxs
   cases h
   intro y hy
   rcases List.mem_cons.1 hy with rfl | hy
   ·exact aaX (ha _ (by simp)) hx
   ·exact Zr (fun z hz=>ha z (by simp [hz])) hxs y hy
  ·cases h
def Gg(c:Bool):SV→SV→Option SV
 | .one a,.one b=>(JI c a b).map .one
 | .tup as,.tup bs=>(uR c as bs).map .tup
 |_,_=>none
theorem JC(ρ:Nm){c:Bool}{a b v:SV}(h:Gg c a b=some v):v.conc ρ=cond c (a.conc ρ) (b.conc ρ):=by
 unfold Gg at h
 split at h
 ·rename_i x y
  cases hm:JI c x y with
  |none=>simp [hm]at h
  |some u=>simp [hm]at h;subst h;exact XA ρ hm
 ·rename_i x y
  cases hm:uR c x y with
  |none=>simp [hm]at h
  |some u=>simp [hm]at h;subst h;simp only [SV.conc,Vu ρ hm];cases c <;> rfl
 ·cases h
theorem aaW{U:Nat→Bool}{c:Bool}{a b v:SV}(ha:a.inU U)(h:Gg c a b=some v):v.inU U:=by
 unfold Gg at h
 split at h
 ·rename_i x y
  cases hm:JI c x y with
  |none=>simp [hm]at h
  |some u=>simp [hm]at h;subst h;exact aaX ha hm
 ·rename_i x y
  cases hm:uR c x y with
  |none=>simp [hm]at h
  |some u=>simp [hm]at h;subst h;exact Zr ha hm
 ·cases h
end Go.SX
namespace Go.SX
open Go.RowKit
theorem ic{used:Nat→Bool}{new:List Nat}: ∀ id,used id=true→bk used new id=true:=by
 intro id h;simp only [bk];cases memN new id <;> simp [h]
theorem Entry.inU_mono{U U':Nat→Bool}(h: ∀ id,U id=true→U' id=true){e:Entry}(he:e.inU U):e.inU U':=by
 cases e with
 |box T cs=>exact fun c hc=>Cell.inU_mono h (he c hc)
 |tree e t xs ho=>
  cases ho with
  |none=>trivial
  |some p=>exact fun c hc=>Cell.inU_mono h (he c hc)
 |_=>trivial
theorem Pf{v:Value}{w:World}{e:TypeId}{z n:Nat}{cs:List Value}(h:CC w e z v n cs){b:Nat}(hb:b∈fB v):
  ∃ cap cur,v= .slice (some ⟨b,0,none⟩) n cap∧w.heap[b]? =some (.cells cur e (0,0))∧n≤cap∧cap≤maxLen∧cur.size=cap * z∧cur.toList.take (n * z)=cs:=by
 rcases h.2 with⟨hz,_⟩ | ⟨g,cap,cur,rfl,h0,hg,h1,h2,h3,h4⟩
 ·rw [ZS hz]at hb;cases hb
 ·rw [sn h0,j7]at hb;subst hb
  exact⟨cap,cur,rfl,hg,h1,h2,h3,h4⟩
theorem qr.blk{w:World}: ∀ {t:CTy} {cs:List Value} {x:E t} {L:List Nat},qr w t cs x L→ ∀ b∈L,b < w.heap.size
 | .int _,_,_,_,h,b,hb=>by simp only [qr]at h;rw [h.2]at hb;cases hb
 | .bool,_,_,_,h,b,hb=>by simp only [qr]at h;rw [h.2]at hb;cases hb
 | .str,_,_,_,h,b,hb=>by simp only [qr]at h;rw [h.2]at hb;cases hb
 | .pair _ _,_,_,_,h,b,hb=>by
  simp only [qr]at h
  obtain⟨c1,c2,L1,L2,_,rfl,h1,h2,_⟩:=h
  rcases w8.1 hb with hb | hb
  ·exact h1.blk b hb
  ·exact h2.blk b hb
 | .sl _ _,_,_,_,h,b,hb=>by
  simp only [qr]at h
  obtain⟨v,ds,_,rfl,_,ho,_⟩:=h
  obtain⟨_,_,_,hg,_⟩:=Pf ho hb
  exact(Array.getElem?_eq_some_iff.1 hg).1
 | .fn,_,_,_,h,b,hb=>by simp only [qr]at h;rw [h.2]at hb;cases hb
theorem Of.blk{w:World}{ρ:Nm}{t:CTy}{cs:List Value}{xs:List (E t)}{Ls:List (List Nat)}{ho:Option (Nat×List Cell)}(h:Of w ρ t cs xs Ls ho): ∀ b∈qo Ls,b < w.heap.size:=by
 intro b hb
 obtain⟨k,l,h1,h2⟩:=nS.1 hb
 have hk:k < xs.length:=by rw [← h.1];exact(z6.1 h1).1
 by_cases hq: ∀ j hc,ho=some (j,hc)→k≠j
 ·exact(h.2.2.1 k _ l hq (List.getElem?_eq_getElem hk) h1).blk b h2
 ·simp only [ne_eq]at hq
  have: ∃ j hc,ho=some (j,hc)∧k=j:=by
   apply Classical.byContradiction
   intro hn
   exact hq fun j hc he hkj=>hn ⟨j,hc,he,hkj⟩
  obtain⟨j,hc,he,rfl⟩:=this
  obtain⟨_,h3,_⟩:=h.2.1 k hc he
  rw [h1]at h3;cases h3;cases h2
theorem Entry.ob_lt{B:Base}{ρ:Nm}{w:World}{id:Nat}{e:Entry}(h:e.holds B ρ w id){b:Nat}(hb:b∈e.ob ρ id):b < w.heap.size∧B.mem b=none∧ρ.mem b=none:=by
 cases e with
 |box T cs=>
  obtain⟨c,h1,h2,h3,h4⟩:=h
  simp only [Entry.ob,h1,fB,j7]at hb
  subst hb
  exact⟨(Array.getElem?_eq_some_iff.1 h2).1,h3,h4⟩
 |row own e t xs=>
  cases own with
  |false=>simp [Entry.ob]at hb
  |true=>
   obtain⟨cs,h1,_,h3⟩:=h
   simp only [Entry.ob]at hb
   obtain⟨_,_,_,hg,_⟩:=Pf h1 hb
   exact⟨(Array.getElem?_eq_some_iff.1 hg).1,h3 b hb⟩
 |tree e t xs ho=>
  obtain⟨cs,Ls,h1,h2,h3,_,h4⟩:=h
  simp only [Entry.ob]at hb
  refine⟨?_,h4 b hb⟩
  rcases w8.1 hb with hb | hb
  ·obtain⟨_,_,_,hg,_⟩:=Pf h1 hb
   exact(Array.getElem?_eq_some_iff.1 hg).1
  ·rw [h3]at hb;exact h2.blk b hb
 |wk e t xs=>
  obtain⟨_,h1,h2⟩:=h
  obtain⟨o,g,_⟩:=ajf h1 hb
  exact⟨(Array.getElem?_eq_some_iff.1 g).1,h2 b hb⟩
 |mp ks=>
  obtain⟨c,es,cl,h1,h2,_,h3,h4⟩:=h
  simp only [Entry.ob,h1,fB,j7]at hb
  subst hb
  exact⟨(Array.getElem?_eq_some_iff.1 h2).1,h3,h4⟩
 |gone=>simp [Entry.ob]at hb
theorem qr.unf{w:World}: ∀ {t:CTy} {cs:List Value} {x:E t} {L:List Nat},qr w t cs x L→ ∀ b∈L,∃ o,w.heap[b]? =some o∧unf o
 | .int _,_,_,_,h,b,hb=>by simp only [qr]at h;rw [h.2]at hb;cases hb
 | .bool,_,_,_,h,b,hb=>by simp only [qr]at h;rw [h.2]at hb;cases hb
 | .str,_,_,_,h,b,hb=>by simp only [qr]at h;rw [h.2]at hb;cases hb
 | .pair _ _,_,_,_,h,b,hb=>by
  simp only [qr]at h
  obtain⟨c1,c2,L1,L2,_,rfl,h1,h2,_⟩:=h
  rcases w8.1 hb with hb | hb
  ·exact h1.unf b hb
  ·exact h2.unf b hb
 | .sl _ _,_,_,_,h,b,hb=>by
  simp only [qr]at h
  obtain⟨v,ds,_,rfl,_,ho,_⟩:=h
  obtain⟨_,_,_,hg,_⟩:=Pf ho hb
  exact⟨_,hg,_,_,rfl⟩
 | .fn,_,_,_,h,b,hb=>by simp only [qr]at h;rw [h.2]at hb;cases hb
theorem Of.unf{w:World}{ρ:Nm}{t:CTy}{cs:List Value}{xs:List (E t)}{Ls:List (List Nat)}{ho:Option (Nat×List Cell)}(h:Of w ρ t cs xs Ls ho): ∀ b∈qo Ls,∃ o,w.heap[b]? =some o∧unf o:=by
 intro b hb
 obtain⟨k,l,h1,h2⟩:=nS.1 hb
 have hk:k < xs.length:=by rw [← h.1];exact(z6.1 h1).1
 by_cases hq: ∀ j hc,ho=some (j,hc)→k≠j
 ·exact(h.2.2.1 k _ l hq (List.getElem?_eq_getElem hk) h1).unf b h2
 ·simp only [ne_eq]at hq
  have: ∃ j hc,ho=some (j,hc)∧k=j:=by
   apply Classical.byContradiction
   intro hn
   exact hq fun j hc he hkj=>hn ⟨j,hc,he,hkj⟩
  obtain⟨j,hc,he,rfl⟩:=this
  obtain⟨_,h3,_⟩:=h.2.1 k hc he
  rw [h1]at h3;cases h3;cases h2
theorem Entry.ob_unf{B:Base}{ρ:Nm}{w:World}{id:Nat}{e:Entry}(h:e.holds B ρ w id){b:Nat}(hb:b∈e.ob ρ id){o:Obj}(ho:w.heap[b]? =some o)(hn: ∀ ks,e≠ .mp ks):unf o:=by
 have key: ∃ o',w.heap[b]? =some o'∧SX.unf o':=by
  cases e with
  |box T cs=>
   obtain⟨c,h1,h2,h3,h4⟩:=h
   simp only [Entry.ob,h1,fB,j7]at hb
   subst hb
   exact⟨_,h2,_,_,rfl⟩
  |row own e t xs=>
   cases own with
   |false=>simp [Entry.ob]at hb
   |true=>
    obtain⟨cs,h1,_,h3⟩:=h
    simp only [Entry.ob]at hb
    obtain⟨_,_,_,hg,_⟩:=Pf h1 hb
    exact⟨_,hg,_,_,rfl⟩
  |tree e t xs ho=>
   obtain⟨cs,Ls,h1,h2,h3,_,h4⟩:=h
   simp only [Entry.ob]at hb
   rcases w8.1 hb with hb | hb
   ·obtain⟨_,_,_,hg,_⟩:=Pf h1 hb
    exact⟨_,hg,_,_,rfl⟩
   ·rw [h3]at hb;exact h2.unf b hb
  |wk e t xs=>
   obtain⟨_,h1,h2⟩:=h
   exact ajf h1 hb
  |mp ks=>exact absurd rfl (hn ks)
  |gone=>simp [Entry.ob]at hb
 obtain⟨o',h1,h2⟩:=key
 rw [ho]at h1;cases h1;exact h2
theorem LV{v:Value}{w w':World}{e:TypeId}{z n:Nat}{cs:List Value}(h:CC w e z v n cs)(hk: ∀ b∈fB v,w'.heap[b]? =w.heap[b]?):CC w' e z v n cs:=by
 refine⟨h.1,h.2.imp id ?_⟩
 rintro⟨g,cap,cur,rfl,h1,h2,rest⟩
 exact⟨g,cap,cur,rfl,h1,by rw [hk g (by rw [sn h1];simp)];exact h2,rest⟩
theorem qr.keep{w w':World}: ∀ {t:CTy} {cs:List Value} {x:E t} {L:List Nat},qr w t cs x L→(∀ b∈L,w'.heap[b]? =w.heap[b]?)→qr w' t cs x L
 | .int _,_,_,_,h,_=>by simp only [qr]at h ⊢;exact h
 | .bool,_,_,_,h,_=>by simp only [qr]at h ⊢;exact h
 | .str,_,_,_,h,_=>by simp only [qr]at h ⊢;exact h
 | .pair _ _,_,_,_,h,hk=>by
  simp only [qr]at h ⊢
  obtain⟨c1,c2,L1,L2,e,rfl,h1,h2,h3⟩:=h
  exact⟨c1,c2,L1,L2,e,rfl,h1.keep fun b hb=>hk b (List.mem_append_left _ hb),h2.keep fun b hb=>hk b (w6 _ hb),h3⟩
 | .sl _ _,_,_,_,h,hk=>by
  simp only [qr]at h ⊢
  obtain⟨v,ds,e,rfl,hf,ho,hr⟩:=h
  exact⟨v,ds,e,rfl,hf,LV ho hk,hr⟩
 | .fn,_,_,_,h,_=>by simp only [qr]at h ⊢;exact h
theorem Of.keep{w w':World}{ρ ρ':Nm}{t:CTy}{cs:List Value}{xs:List (E t)}{Ls:List (List Nat)}{ho:Option (Nat×List Cell)}(h:Of w ρ t cs xs Ls ho)(hk: ∀ b∈qo Ls,w'.heap[b]? =w.heap[b]?)
  (hc: ∀ k hc,ho=some (k,hc)→hc.map (Cell.conc ρ')=hc.map (Cell.conc ρ)):Of w' ρ' t cs xs Ls ho:=by
 obtain⟨h1,h2,h3,h4⟩:=h
 refine⟨h1,fun k l he=> ?_,fun i x l hi hx hl=>(h3 i x l hi hx hl).keep fun b hb=>hk b (nS.2 ⟨i,l,hl,hb⟩),h4⟩
 obtain⟨a,b,c⟩:=h2 k l he
 exact⟨a,b,by rw [hc k l he];exact c⟩
theorem Entry.holds_keep{B:Base}{ρ ρ':Nm}{U:Nat→Bool}{w w':World}{id:Nat}{e:Entry}(hfp:ρ'.fp id=ρ.fp id)(Ff: ∀ id,U id=true→ρ' id=ρ id)(hold: ∀ b o,ρ.mem b=some o→ρ'.mem b=some o)
  (hU:U id=true) (BV:e.inU U) (hh:e.holds B ρ w id) (hw: ∀ b∈e.ob ρ id,w'.heap[b]? =w.heap[b]?) (hm: ∀ b∈e.ob ρ id,ρ'.mem b=none):e.holds B ρ' w' id:=by
 cases e with
 |box T cs=>
  obtain⟨b,h1,h2,h3,h4⟩:=hh
  simp only [Entry.ob,h1,fB,j7,forall_eq]at hw hm
  exact⟨b,by rw [Ff id hU,h1],by rw [uQ Ff BV,hw,h2],h3,hm⟩
 |row own e t xs=>
  cases own with
  |false=>
   simp only [Entry.holds]at hh ⊢
   rw [Ff id hU];exact hh.mono hold
  |true=>
   obtain⟨cs,h1,h2,h3⟩:=hh
   simp only [Entry.ob]at hw hm
   simp only [Entry.holds]
   rw [Ff id hU]
   exact⟨cs,LV h1 hw,h2.mono hold,fun b hb=>⟨(h3 b hb).1,hm b hb⟩⟩
 |tree e t xs ho=>
  obtain⟨cs,Ls,h1,h2,h3,h4,h5⟩:=hh
  simp only [Entry.ob]at hw hm
  simp only [Entry.holds]
  rw [Ff id hU,hfp]
  refine⟨cs,Ls,LV h1 fun b hb=>hw b (List.mem_append_left _ hb),h2.keep (fun b hb=>hw b (w6 _ (by rw [h3];exact hb))) fun k l he=> ?_,h3,h4,fun b hb=>⟨(h5 b hb).1,hm b hb⟩⟩
  subst he
  exact uQ Ff BV
 |wk e t xs=>
  obtain⟨h1,h2,h3⟩:=hh
  simp only [Entry.ob]at hw hm
  simp only [Entry.holds]
  rw [Ff id hU]
  exact⟨h1,aj7 h1 h2 hw,fun b hb=>⟨(h3 b hb).1,hm b hb⟩⟩
 |mp ks=>
  obtain⟨b,es,cl,h1,h2,h3,h4,h5⟩:=hh
  simp only [Entry.ob,h1,fB,j7,forall_eq]at hw hm
  exact⟨b,es,cl,by rw [Ff id hU,h1],by rw [hw,h2],h3,h4,hm⟩
 |gone=>trivial
structure Chg (w w':World) (X:Nat→Prop):Prop where
 os:w'.os=w.os
 tape:w'.tape=w.tape
 output:w'.output=w.output
 size:w.heap.size≤w'.heap.size
 block: ∀ k,k < w.heap.size→ ¬ X k→w'.heap[k]? =w.heap[k]?
theorem Chg.refl(w:World)(X:Nat→Prop):Chg w w X:=⟨rfl,rfl,rfl,Nat.le_refl _,fun _ _ _=>rfl⟩
theorem Chg.grown{w w':World}{r:Option Nat}(h:w.grownBy w' r):Chg w w' (fun k=>r=some k):=
 ⟨h.os,h.tape,h.output,h.size,fun k hk hX=>h.block k hk fun e=>hX e.symm⟩
theorem Chg.alloc(w:World)(o:Obj):Chg w (w.alloc o) (fun _=>False):=
 ⟨rfl,rfl,rfl,by simp,fun k hk _=>heap_alloc_old w o hk⟩
theorem Chg.setRow(w:World)(b:Nat)(r:Array Value):Chg w (w.setRow b r) (fun k=>k=b):=
 ⟨rfl,rfl,rfl,by simp [World.setRow],fun k _ hX=>setRow_other w b k _ hX⟩
def Was(ent:Nat→Option Entry)(ρ:Nm)(es:List (Nat×Entry))(b:Nat):Prop:= ∃ id e e',ent id=some e∧b∈e.ob ρ id∧look? es id=some e'
theorem Hp.chg{B:Base}{ρ ρ':Nm}{ent:Nat→Option Entry}{used:Nat→Bool}{w w':World}{X:Nat→Prop}{es:List (Nat×Entry)}{new:List Nat}(h:Hp B ρ ent used w)
  (hc:Chg w w' X) (Ff: ∀ id,used id=true→ρ' id=ρ id) (hold: ∀ b o,ρ.mem b=some o→ρ'.mem b=some o)
  (hX: ∀ k,X k→Was ent ρ es k)
  (hfr: ∀ b o,ρ'.mem b=some o→ρ.mem b=some o∨(w'.heap[b]? =some o∧unf o∧(w.heap.size≤b∨Was ent ρ es b)))
  (hes: ∀ id e,look? es id=some e→e.holds B ρ' w' id∧bk used new id=true∧e.inU (bk used new))
  (hob: ∀ id e b,look? es id=some e→b∈e.ob ρ' id→w.heap.size≤b∨Was ent ρ es b)
  (hdis: ∀ id id' e e' b,look? es id=some e→look? es id'=some e'→b∈e.ob ρ' id→b∈e'.ob ρ' id'→id=id')
  (hfp: ∀ id,used id=true→look? es id=none→ρ'.fp id=ρ.fp id:=by intros;rfl):
  Ext B used ρ ρ'∧Hp B ρ' (aZ ent es) (bk used new) w':=by
 have Gu: ∀ b,Was ent ρ es b→b < w.heap.size∧B.mem b=none∧ρ.mem b=none:=fun b ⟨id,e,_,h1,h2,_⟩=>Entry.ob_lt (h.he id e h1).1 h2
 have hnw: ∀ b o,B.mem b=some o→ ¬ w.heap.size≤b:=fun b o hb Gt=>by
  have:=(Array.getElem?_eq_some_iff.1 (h.hf.mem b o hb)).1;omega
 have oth: ∀ id e b,ent id=some e→look? es id=none→b∈e.ob ρ id→ ¬ Was ent ρ es b:=by
  intro id e b he hl hb ⟨id0,e0,e',h1,h2,h3⟩
  have:=h.hi _ _ _ _ b he h1 hb h2
  subst this;rw [hl]at h3;cases h3
 have key: ∀ id e,ent id=some e→look? es id=none→e.holds B ρ' w' id∧bk used new id=true∧e.inU (bk used new):=by
  intro id e he hl
  obtain⟨h1,h2,h3⟩:=h.he id e he
  refine⟨Entry.holds_keep (hfp id h2 hl) Ff hold h2 h3 h1 (fun b hb=>hc.block b (Entry.ob_lt h1 hb).1 fun hx=>oth id e b he hl hb (hX b hx)) (fun b hb=> ?_),ic _ h2,Entry.inU_mono ic h3⟩
  cases hm:ρ'.mem b with
  |none=>rfl
  |some o=>
   obtain⟨h4,_,h5⟩:=Entry.ob_lt h1 hb
   rcases hfr b o hm with h6 | ⟨_,_,h6 | h6⟩
   ·rw [h5]at h6;cases h6
   ·omega
   ·exact(oth id e b he hl hb h6).elim
 have jM: ∀ b o,ρ'.mem b=some o→ρ.mem b=some o∨(B.mem b=none∧unf o):=by
  intro b o hb
  rcases hfr b o hb with h6 | ⟨_,hu,h6⟩
  ·exact .inl h6
  ·refine .inr ⟨?_,hu⟩
   cases hm:B.mem b with
   |none=>rfl
   |some o'=>
    rcases h6 with h6 | h6
    ·exact(hnw b o' hm h6).elim
    ·rw [(Gu b h6).2.1]at hm;cases hm
 refine⟨⟨Ff,hold,jM⟩,fun id e he=> ?_,fun id id' e e' b he he' hb hb'=> ?_,hc.os.trans h.hf.os,hc.tape.trans h.hf.tape,hc.output.trans h.hf.output,Nat.le_trans h.hf.size hc.size,fun b o hb=> ?_,fun b o hb=> ?_,h.hf.gl.mono hold⟩
 ·simp only [aZ]at he
  cases hl:look? es id with
  |some e1=>simp [hl]at he;subst he;exact hes id _ hl
  |none=>simp [hl]at he;exact key id e he hl
 ·have hsame: ∀ id e b,ent id=some e→look? es id=none→b∈e.ob ρ' id→b∈e.ob ρ id:=fun id e b he hl hb=>by
   have h1:=Ff id (h.he id e he).2.1
   have h2:=hfp id (h.he id e he).2.1 hl
   cases e with
   |row own _ _ _=>cases own <;> simp only [Entry.ob,h1]at hb ⊢ <;> exact hb
   |_=>simp only [Entry.ob,h1,h2]at hb ⊢;exact hb
  simp only [aZ]at he he'
  cases hl:look? es id with
  |some e1=>
   simp [hl]at he;subst he
   cases hl':look? es id' with
   |some e2=>simp [hl']at he';subst he';exact hdis _ _ _ _ b hl hl' hb hb'
   |none=>
    simp [hl']at he'
    have hb2:=hsame _ _ _ he' hl' hb'
    rcases hob id _ b hl hb with h6 | h6
    ·have:=(Entry.ob_lt (h.he id' e' he').1 hb2).1;omega
    ·exact(oth id' e' b he' hl' hb2 h6).elim
  |none=>
   simp [hl]at he
   have hb1:=hsame _ _ _ he hl hb
   cases hl':look? es id' with
   |some e2=>
    simp [hl']at he';subst he'
    rcases hob id' _ b hl' hb' with h6 | h6
    ·have:=(Entry.ob_lt (h.he id e he).1 hb1).1;omega
    ·exact(oth id e b he hl hb1 h6).elim
   |none=>
    simp [hl']at he'
    exact h.hi _ _ _ _ b he he' hb1 (hsame _ _ _ he' hl' hb')
 ·have h1:=h.hf.mem b o hb
  rw [hc.block b (Array.getElem?_eq_some_iff.1 h1).1 fun hx=>by rw [(Gu b (hX b hx)).2.1]at hb;cases hb];exact h1
 ·rcases hfr b o hb with h6 | ⟨h6,_⟩
  ·have h1:=h.hf.dat b o h6
   rw [hc.block b (Array.getElem?_eq_some_iff.1 h1).1 fun hx=>by rw [(Gu b (hX b hx)).2.2]at h6;cases h6];exact h1
  ·exact h6
theorem look?_append{α:Type}: ∀ (l r:List (Nat×α)) (k:Nat),look? (l++r) k=match look? l k with | some x=>some x | none=>look? r k
 | [],r,k=>rfl
 |p::l,r,k=>by
  simp only [List.cons_append,look?]
  cases Nat.beq p.1 k with
  |true=>rfl
  |false=>exact look?_append l r k
theorem aaV: ∀ (l r:List Nat) (k:Nat),memN (l++r) k=(memN l k||memN r k)
 | [],r,k=>by simp [memN]
 |p::l,r,k=>by
  simp only [List.cons_append,memN]
  cases Nat.beq p k with
  |true=>simp
  |false=>simpa using aaV l r k
theorem yP(ent:Nat→Option Entry)(l r:List (Nat×Entry)):aZ (aZ ent r) l=aZ ent (l++r):=by
 funext i
 simp only [aZ,look?_append]
 cases look? l i <;> rfl
theorem ac4(used:Nat→Bool)(l r:List Nat):bk (bk used r) l=bk used (l++r):=by
 funext i
 simp only [bk,aaV]
 cases memN l i <;> cases memN r i <;> rfl
theorem Qg(used:Nat→Bool):bk used []=used:=rfl
def upd(ρ:Nm)(nid:Nat)(v:Value):Nm:=⟨fun i=>bif Nat.beq i nid then v else ρ.nm i,ρ.mem,ρ.fp⟩
theorem fy(ρ:Nm)(nid:Nat){v:Value}(hv:HX v=v):upd ρ nid v nid=v:=by simp [Nm.of,upd,hv]
theorem ND{a:Addr}{n c b:Nat}(h:b∈fB (.slice (some a) n c)):b=a.block:=by
 simp only [fB]at h
 cases hq:Nat.beq c 0 with
 |true=>rw [hq]at h;cases h
 |false=>rw [hq]at h;simpa using h
theorem Fy{v:Value}(h:XG v): ∃ b,v= .slice b 0 0:=by
 rcases h with rfl | ⟨b,rfl⟩
 ·exact⟨_,rfl⟩
 ·exact⟨_,rfl⟩
theorem YD{v:Value}(h:XG v):HX v=v:=by
 rcases h with rfl | ⟨_,rfl⟩ <;> rfl
theorem sX{w:World}{e:TypeId}{z n:Nat}{v:Value}{cs:List Value}(h:CC w e z v n cs):HX v=v:=by
 rcases h.2 with⟨h,_⟩ | ⟨_,_,_,rfl,_⟩
 ·exact YD h
 ·rfl
theorem Chg.own{w w':World}{v:Value}(h:w.grownBy w' v.ownBlock)(hv: ∀ g,v.ownBlock=some g→g∈fB v):Chg w w' (fun k=>k∈fB v):=
 ⟨h.os,h.tape,h.output,h.size,fun k hk hX=>h.block k hk fun e=>hX (hv k e.symm)⟩
theorem Ew{used:Nat→Bool}{nid:Nat}(hn:used nid=false)(ρ:Nm)(v:Value): ∀ id,used id=true→upd ρ nid v id=ρ id:=by
 intro id jy
 have:Nat.beq id nid=false:=by
  cases hb:Nat.beq id nid with
  |false=>rfl
  |true=>rw [q8 hb,hn]at jy;cases jy
 simp only [Nm.of,upd,this,cond_false]
theorem look?_one{α:Type}{i k:Nat}{x y:α}(h:look? [(i,x)] k=some y):k=i∧y=x:=by
 simp only [look?]at h
 cases hb:Nat.beq i k with
 |true=>simp [hb]at h;exact⟨(q8 hb).symm,h.symm⟩
 |false=>simp [hb]at h
theorem look?_same{α:Type}(i:Nat)(x:α)(l:List (Nat×α)):look? ((i,x)::l) i=some x:=by simp [look?]
section
variable{B:Base}{ρ:Nm}{ent:Nat→Option Entry}{used:Nat→Bool}{w:World}
theorem Hp.alloc(h:Hp B ρ ent used w){nid:Nat}(hn:used nid=false)(T:TypeId)(cs:List Cell)(Jr: ∀ c∈cs,c.inU used):
  let ρ':=upd ρ nid (.pointer (some ⟨w.heap.size,0,none⟩))
  Ext B used ρ ρ'∧Hp B ρ' (aZ ent [(nid,.box T cs)]) (bk used [nid]) (w.alloc (.cells (cs.map (Cell.conc ρ)).toArray T)):=by
 intro ρ'
 have Ff:=Ew hn ρ (.pointer (some ⟨w.heap.size,0,none⟩))
 refine h.chg (Chg.alloc w _) Ff (fun _ _ h=>h) (fun _ hx=>hx.elim) (fun _ _ hb=> .inl hb) (fun id e he=> ?_) (fun id e b he hb=> ?_) (fun id id' e e' b he he' _ _=> ?_)
 ·obtain⟨rfl,rfl⟩:=look?_one he
  refine⟨⟨w.heap.size,fy _ _ rfl,?_,?_,?_⟩,by simp [bk,memN],fun c hc=>Cell.inU_mono ic (Jr c hc)⟩
  ·rw [uQ Ff Jr];exact heap_alloc_new w _
  ·cases hm:B.mem w.heap.size with
   |none=>rfl
   |some o=>have:=(Array.getElem?_eq_some_iff.1 (h.hf.mem _ _ hm)).1;omega
  ·show ρ.mem w.heap.size=none
   cases hm:ρ.mem w.heap.size with
   |none=>rfl
   |some o=>have:=(Array.getElem?_eq_some_iff.1 (h.hf.dat _ _ hm)).1;omega
 ·obtain⟨rfl,rfl⟩:=look?_one he
  simp only [Entry.ob]at hb
  rw [show ρ' id= .pointer (some ⟨w.heap.size,0,none⟩) from fy _ _ rfl]at hb
  simp only [fB,j7]at hb
  subst hb;exact .inl (Nat.le_refl _)
 ·exact(look?_one he).1.trans (look?_one he').1.symm
theorem Hp.setBox(h:Hp B ρ ent used w){id:Nat}{T:TypeId}{cs ns:List Cell}(he:ent id=some (.box T cs))(hns: ∀ c∈ns,c.inU used):
  Ext B used ρ ρ∧Hp B ρ (aZ ent [(id,.box T ns)]) used (w.setRow (Mv (ρ id)) (ns.map (Cell.conc ρ)).toArray):=by
 obtain⟨⟨b,h1,h2,h3,h4⟩,jy,_⟩:=h.he _ _ he
 have hbk:Mv (ρ id)=b:=by rw [h1];rfl
 have Gu:Was ent ρ [(id,.box T ns)] b:=⟨id,_,_,he,by simp [Entry.ob,h1,fB],look?_same _ _ _⟩
 rw [hbk,show used=bk used [] from rfl]
 refine h.chg (Chg.setRow w b _) (fun _ _=>rfl) (fun _ _ h=>h) (fun k hk=>by subst hk;exact Gu) (fun _ _ hb=> .inl hb) (fun i e hl=> ?_) (fun i e b' hl hb'=> ?_) (fun i i' e e' b' hl hl' _ _=> ?_)
 ·obtain⟨rfl,rfl⟩:=look?_one hl
  exact⟨⟨b,h1,setRow_heap w _ _ _ T _ h2,h3,h4⟩,jy,hns⟩
 ·obtain⟨rfl,rfl⟩:=look?_one hl
  simp only [Entry.ob,h1,fB,j7]at hb'
  subst hb';exact .inr Gu
 ·exact(look?_one hl).1.trans (look?_one hl').1.symm
theorem Hp.names(h:Hp B ρ ent used w){ρ':Nm}{es:List (Nat×Entry)}{new:List Nat}(Ff: ∀ id,used id=true→ρ' id=ρ id)(Bp:ρ'.mem=ρ.mem)
  (hes: ∀ id e,look? es id=some e→e.holds B ρ' w id∧bk used new id=true∧e.inU (bk used new)∧e.ob ρ' id= [])
  (hfp: ∀ id,used id=true→look? es id=none→ρ'.fp id=ρ.fp id:=by intros;rfl):
  Ext B used ρ ρ'∧Hp B ρ' (aZ ent es) (bk used new) w:=by
 refine h.chg (Chg.refl w (fun _=>False)) Ff (fun _ _ h=>by rw [Bp];exact h) (fun _ hx=>hx.elim) (fun _ _ hb=> .inl (by rw [← Bp];exact hb)) (fun id e he=> ?_) (fun id e b he hb=> ?_) (fun id id' e e' b he he' hb _=> ?_) hfp
 ·obtain⟨h1,h2,h3,_⟩:=hes id e he;exact⟨h1,h2,h3⟩
 ·rw [(hes id e he).2.2.2]at hb;cases hb
 ·rw [(hes id e he).2.2.2]at hb;cases hb
theorem Hp.rowTo(h:Hp B ρ ent used w){id nid:Nat}{e:TypeId}{t:CTy}{xs xs':List (E t)}{w':World}{v':Value}{cs:List Value}(he:ent id=some (.row true e t xs))(hn:used nid=false)
  (hg:Chg w w' (fun k=>k∈fB (ρ id))) (pT:CC w' e t.size v' xs'.length cs) (qE:jY ρ.mem t cs xs') (hb: ∀ b∈fB v',w.heap.size≤b∨b∈fB (ρ id)):
  let ρ':=upd ρ nid v'
  Ext B used ρ ρ'∧Hp B ρ' (aZ ent [(nid,.row true e t xs'),(id,.gone)]) (bk used [nid]) w':=by
 intro ρ'
 obtain⟨⟨cs0,h1,h2,h3⟩,jy,_⟩:=h.he _ _ he
 have Ff:=Ew hn ρ v'
 have Oc:Nat.beq nid id=false:=by
  cases hq:Nat.beq nid id with
  |false=>rfl
  |true=>rw [q8 hq,jy]at hn;cases hn
 have hlid:look? [(nid,Entry.row true e t xs'),(id,.gone)] id=some .gone:=by simp [look?,Oc]
 have Gu: ∀ b∈fB (ρ id),Was ent ρ [(nid,.row true e t xs'),(id,.gone)] b:=fun b hb=>⟨id,_,_,he,hb,hlid⟩
 have hcase: ∀ i x,look? [(nid,Entry.row true e t xs'),(id,.gone)] i=some x→(i=nid∧x= .row true e t xs')∨(i=id∧x= .gone):=by
  intro i x hl
  simp only [look?]at hl
  cases hq:Nat.beq nid i with
  |true=>simp [hq]at hl;exact .inl ⟨(q8 hq).symm,hl.symm⟩
  |false=>
   simp [hq]at hl
   cases hq':Nat.beq id i with
   |true=>simp [hq']at hl;exact .inr ⟨(q8 hq').symm,hl.symm⟩
   |false=>simp [hq']at hl
 refine h.chg hg Ff (fun _ _ h=>h) (fun k hk=>Gu k hk) (fun _ _ hb=> .inl hb) (fun i x hl=> ?_) (fun i x b hl hb'=> ?_) (fun i i' x x' b hl hl' hb1 hb2=> ?_)
 ·rcases hcase i x hl with⟨rfl,rfl⟩ | ⟨rfl,rfl⟩
  ·refine⟨?_,by simp [bk,memN],trivial⟩
   simp only [Entry.holds]
   rw [show ρ' i=v' from fy _ _ (sX pT)]
   refine⟨cs,pT,qE,fun b hb'=> ?_⟩
   rcases hb b hb' with h6 | h6
   ·constructor
    ·cases hm:B.mem b with
     |none=>rfl
     |some o=>have:=(Array.getElem?_eq_some_iff.1 (h.hf.mem _ _ hm)).1;omega
    ·show ρ.mem b=none
     cases hm:ρ.mem b with
     |none=>rfl
     |some o=>have:=(Array.getElem?_eq_some_iff.1 (h.hf.dat _ _ hm)).1;omega
   ·exact h3 b h6
  ·exact⟨trivial,ic _ jy,trivial⟩
 ·rcases hcase i x hl with⟨rfl,rfl⟩ | ⟨rfl,rfl⟩
  ·simp only [Entry.ob]at hb'
   rw [show ρ' i=v' from fy _ _ (sX pT)]at hb'
   exact(hb b hb').imp (fun h=>h) (Gu b)
  ·simp [Entry.ob]at hb'
 ·rcases hcase i x hl with⟨rfl,rfl⟩ | ⟨rfl,rfl⟩
  ·rcases hcase i' x' hl' with⟨rfl,rfl⟩ | ⟨rfl,rfl⟩
   ·rfl
   ·simp [Entry.ob]at hb2
  ·simp [Entry.ob]at hb1
theorem Hp.rowNew(h:Hp B ρ ent used w){nid:Nat}{e:TypeId}{t:CTy}{xs:List (E t)}{w':World}{v:Value}{cs:List Value}(hn:used nid=false)
  (hg:w.grownBy w' none) (pT:CC w' e t.size v xs.length cs) (qE:jY ρ.mem t cs xs) (hb: ∀ b∈fB v,w.heap.size≤b):
  let ρ':=upd ρ nid v
  Ext B used ρ ρ'∧Hp B ρ' (aZ ent [(nid,.row true e t xs)]) (bk used [nid]) w':=by
 intro ρ'
 have Ff:=Ew hn ρ v
 refine h.chg (Chg.grown hg) Ff (fun _ _ h=>h) (fun k hk=>by cases hk) (fun _ _ hb=> .inl hb) (fun i x hl=> ?_) (fun i x b hl hb'=> ?_) (fun i i' x x' b hl hl' hb1 hb2=> ?_)
 ·obtain⟨rfl,rfl⟩:=look?_one hl
  refine⟨?_,by simp [bk,memN],trivial⟩
  simp only [Entry.holds]
  rw [show ρ' i=v from fy _ _ (sX pT)]
  refine⟨cs,pT,qE,fun b hb'=> ?_⟩
  have h6:=hb b hb'
  constructor
  ·cases hm:B.mem b with
   |none=>rfl
   |some o=>have:=(Array.getElem?_eq_some_iff.1 (h.hf.mem _ _ hm)).1;omega
  ·show ρ.mem b=none
   cases hm:ρ.mem b with
   |none=>rfl
   |some o=>have:=(Array.getElem?_eq_some_iff.1 (h.hf.dat _ _ hm)).1;omega
 ·obtain⟨rfl,rfl⟩:=look?_one hl
  simp only [Entry.ob]at hb'
  rw [show ρ' i=v from fy _ _ (sX pT)]at hb'
  exact .inl (hb b hb')
 ·exact(look?_one hl).1.trans (look?_one hl').1.symm
theorem Hp.rowSet(h:Hp B ρ ent used w){id:Nat}{e:TypeId}{t:CTy}{xs xs':List (E t)}{w':World}{cs:List Value}(he:ent id=some (.row true e t xs))
  (hg:Chg w w' (fun k=>k∈fB (ρ id))) (pT:CC w' e t.size (ρ id) xs'.length cs) (qE:jY ρ.mem t cs xs'):
  Ext B used ρ ρ∧Hp B ρ (aZ ent [(id,.row true e t xs')]) used w':=by
 obtain⟨⟨cs0,h1,h2,h3⟩,jy,_⟩:=h.he _ _ he
 have Gu: ∀ b∈fB (ρ id),Was ent ρ [(id,.row true e t xs')] b:=fun b hb=>⟨id,_,_,he,hb,look?_same _ _ _⟩
 rw [show used=bk used [] from rfl]
 refine h.chg hg (fun _ _=>rfl) (fun _ _ h=>h) (fun k hk=>Gu k hk) (fun _ _ hb=> .inl hb) (fun i x hl=> ?_) (fun i x b hl hb'=> ?_) (fun i i' x x' b hl hl' hb1 hb2=> ?_)
 ·obtain⟨rfl,rfl⟩:=look?_one hl
  exact⟨⟨cs,pT,qE,h3⟩,jy,trivial⟩
 ·obtain⟨rfl,rfl⟩:=look?_one hl
  exact .inr (Gu b hb')
 ·exact(look?_one hl).1.trans (look?_one hl').1.symm
theorem Hp.freeze'(h:Hp B ρ ent used w){id:Nat}{e:TypeId}{t:CTy}{xs:List (E t)}(he:ent id=some (.row true e t xs)):
  ∃ ρ':Nm,ρ'.nm=ρ.nm∧ρ'.fp=ρ.fp∧(∀ b∈fB (ρ id),∃ o,ρ'.mem b=some o)∧Ext B used ρ ρ'∧Hp B ρ' (aZ ent [(id,.row false e t xs)]) used w:=by
 obtain⟨⟨cs,h1,h2,h3⟩,jy,_⟩:=h.he _ _ he
 have Gu: ∀ b∈fB (ρ id),Was ent ρ [(id,.row false e t xs)] b:=fun b hb=>⟨id,_,_,he,hb,look?_same _ _ _⟩
 refine⟨⟨ρ.nm,fun b=>if b∈fB (ρ id)then w.heap[b]? else ρ.mem b,ρ.fp⟩,rfl,rfl,fun b hb=> ?_,?_⟩
 ·show ∃ o,(if b∈fB (ρ id)then w.heap[b]? else ρ.mem b)=some o
  rw [if_pos hb]
  obtain⟨_,_,_,hg,_⟩:=Pf h1 hb
  exact⟨_,hg⟩
 have hold: ∀ b o,ρ.mem b=some o→(if b∈fB (ρ id)then w.heap[b]? else ρ.mem b)=some o:=by
  intro b o hb
  split
  ·exact h.hf.dat b o hb
  ·exact hb
 rw [show used=bk used [] from rfl]
 refine h.chg (Chg.refl w (fun _=>False)) (fun _ _=>rfl) hold (fun _ hx=>hx.elim) (fun b o hb=> ?_) (fun i x hl=> ?_) (fun i x b hl hb'=> ?_) (fun i i' x x' b hl hl' hb1 hb2=> ?_)
 ·simp only at hb
  split at hb
  ·rename_i hm;exact .inr ⟨hb,Entry.ob_unf (h.he _ _ he).1 hm hb (fun _ h=>by cases h),.inr (Gu b hm)⟩
  ·exact .inl hb
 ·obtain⟨rfl,rfl⟩:=look?_one hl
  refine⟨?_,jy,trivial⟩
  show GO _ t (ρ i) xs
  rcases h1.2 with⟨hv,hn0⟩ | ⟨g,cap,cur,hv,h0,hg,Gt,TZ,FG,Ub⟩
  ·exact .inl ⟨hv,List.length_eq_zero_iff.1 hn0⟩
  ·refine .inr ⟨g,0,cap,cur,e,(0,0),hv,Gt,TZ,?_,fun j x hx=> ?_⟩
   ·show (if g∈fB (ρ i)then w.heap[g]? else ρ.mem g)=_
    rw [if_pos (by rw [hv,sn h0];simp)];exact hg
   ·have:=Rep.mono hold _ _ _ (h2.2 j x hx)
    rw [← Ub]at this
    have hj:j < xs.length:=(z6.1 hx).1
    have gm:j * t.size + t.size≤xs.length * t.size:=by
     have:(j + 1) * t.size≤xs.length * t.size:=Nat.mul_le_mul_right _ hj
     rwa [Nat.add_mul,Nat.one_mul]at this
    rw [List.drop_take,List.take_take]at this
    rw [Nat.zero_add]
    rwa [Nat.min_eq_left (by omega)]at this
 ·obtain⟨rfl,rfl⟩:=look?_one hl
  simp [Entry.ob]at hb'
 ·exact(look?_one hl).1.trans (look?_one hl').1.symm
theorem Hp.freeze(h:Hp B ρ ent used w){id:Nat}{e:TypeId}{t:CTy}{xs:List (E t)}(he:ent id=some (.row true e t xs)):
  ∃ ρ':Nm,ρ'.nm=ρ.nm∧Ext B used ρ ρ'∧Hp B ρ' (aZ ent [(id,.row false e t xs)]) used w:=
 let ⟨ρ',h1,_,_,h2,h3⟩:=h.freeze' he
 ⟨ρ',h1,h2,h3⟩
end
end Go.SX
namespace Go.SX
open Go.RowKit
def CTy.nsl:CTy→Nat
 | .sl _ _=>1
 | .fn=>1
 | .pair a b=>a.nsl + b.nsl
 |_=>0
def sR:(t:CTy)→E t→Nat→List Cell
 | .int k,x,_=> [.val (.int k x)]
 | .bool,b,_=> [.val (.bool b)]
 | .str,s,_=> [.val (.string s)]
 | .pair a b,p,n=>sR a p.1 n++sR b p.2 (n + a.nsl)
 | .sl _ _,_,n=> [.ref n]
 | .fn,_,n=> [.ref n]
def Hl:(t:CTy)→E t→Nat→List (Nat×Entry)
 | .pair a b,p,n=>Hl a p.1 n++Hl b p.2 (n + a.nsl)
 | .sl e t,xs,n=> [(n,.row false e t xs)]
 | .fn,_,n=> [(n,.gone)]
 |_,_,_=> []
def aK:Nat→Nat→List Nat
 |_,0=> []
 |n,k + 1=>n::aK (n + 1) k
theorem oW: ∀ {k n i:Nat},memN (aK n k) i=true↔n≤i∧i < n + k
 |0,n,i=>by simp [aK,memN]
 |k + 1,n,i=>by
  simp only [aK,memN]
  cases hb:Nat.beq n i with
  |true=>have:=q8 hb;subst this;simp
  |false=>
   have Oc:n≠i:=fun e=>by subst e;simp at hb
   simp only [cond_false]
   rw [oW];omega
theorem Sk: ∀ (t:CTy) (x:E t) (n:Nat),∀ c∈sR t x n,c.inU (fun i=>Nat.ble n i&&Nat.blt i (n + t.nsl))
 | .int _,_,_,c,hc=>by simp only [sR,j7]at hc;subst hc;trivial
 | .bool,_,_,c,hc=>by simp only [sR,j7]at hc;subst hc;trivial
 | .str,_,_,c,hc=>by simp only [sR,j7]at hc;subst hc;trivial
 | .sl _ _,_,n,c,hc=>by
  simp only [sR,j7]at hc;subst hc
  simp [Cell.inU,CTy.nsl,Nat.blt]
 | .fn,_,n,c,hc=>by
  simp only [sR,j7]at hc;subst hc
  simp [Cell.inU,CTy.nsl,Nat.blt]
 | .pair a b,p,n,c,hc=>by
  simp only [sR,w8]at hc
  rcases hc with hc | hc
  ·refine Cell.inU_mono (fun i hi=> ?_) (Sk a p.1 n c hc)
   simp only [w3,Nat.ble_eq,Nat.blt,CTy.nsl]at hi ⊢;omega
  ·refine Cell.inU_mono (fun i hi=> ?_) (Sk b p.2 _ c hc)
   simp only [w3,Nat.ble_eq,Nat.blt,CTy.nsl]at hi ⊢;omega
theorem Tr: ∀ (t:CTy) (x:E t) (n:Nat),(sR t x n).length=t.size
 | .int _,_,_=>rfl
 | .bool,_,_=>rfl
 | .str,_,_=>rfl
 | .sl _ _,_,_=>rfl
 | .fn,_,_=>rfl
 | .pair a b,p,n=>by simp only [sR,w4,CTy.size,Tr a,Tr b]
theorem Rep.length{H:Nat→Option Obj}: ∀ (t:CTy) (cs:List Value) (x:E t),Rep H t cs x→cs.length=t.size
 | .int _,_,_,h=>by simp only [Rep]at h;rw [h];rfl
 | .bool,_,_,h=>by simp only [Rep]at h;rw [h];rfl
 | .str,_,_,h=>by simp only [Rep]at h;rw [h];rfl
 | .pair a b,_,_,h=>by
  simp only [Rep]at h
  obtain⟨c1,c2,e,h1,h2⟩:=h
  rw [e,w4,Rep.length a _ _ h1,Rep.length b _ _ h2];rfl
 | .sl _ _,_,_,h=>by simp only [Rep]at h;obtain⟨v,e,_⟩:=h;rw [e];rfl
 | .fn,_,_,h=>by simp only [Rep]at h;obtain⟨v,e,_⟩:=h;rw [e];rfl
theorem OV{H:Nat→Option Obj}{α:Type}{p:List Value→α→Prop}{z:Nat}{v:Value}{xs:List α}(h:afI p z H v xs):HX v=v:=by
 rcases h with⟨h,_⟩ | ⟨_,_,_,_,_,_,rfl,_⟩
 ·exact YD h
 ·rfl
theorem Ts: ∀ (t:CTy) (cs:List Value) (x:E t) (n:Nat) (ρ:Nm),Rep ρ.mem t cs x→
  ∃ ρ':Nm,ρ'.mem=ρ.mem∧ρ'.fp=ρ.fp∧(∀ i,i < n∨n + t.nsl≤i→ρ' i=ρ i)∧cs=(sR t x n).map (Cell.conc ρ')∧
   (∀ i e,look? (Hl t x n) i=some e→(e= .gone∨ ∃ e0 t0 xs,e= .row false e0 t0 xs∧GO ρ.mem t0 (ρ' i) xs)∧n≤i∧i < n + t.nsl)
 | .int k,cs,x,n,ρ,h=>⟨ρ,rfl,rfl,fun _ _=>rfl,by simp only [Rep]at h;rw [h];rfl,fun i e he=>by simp [Hl,look?]at he⟩
 | .bool,cs,x,n,ρ,h=>⟨ρ,rfl,rfl,fun _ _=>rfl,by simp only [Rep]at h;rw [h];rfl,fun i e he=>by simp [Hl,look?]at he⟩
 | .str,cs,x,n,ρ,h=>⟨ρ,rfl,rfl,fun _ _=>rfl,by simp only [Rep]at h;rw [h];rfl,fun i e he=>by simp [Hl,look?]at he⟩
 | .sl e t,cs,xs,n,ρ,h=>by
  simp only [Rep]at h
  obtain⟨v,hv,hr⟩:=h
  refine⟨upd ρ n v,rfl,rfl,fun i hi=> ?_,?_,fun i e' he=> ?_⟩
  ·have:Nat.beq i n=false:=by
    cases hb:Nat.beq i n with
    |false=>rfl
    |true=>have:=q8 hb;simp only [CTy.nsl]at hi;omega
   simp only [Nm.of,upd,this,cond_false]
  ·rw [hv];simp [sR,Cell.conc,Nm.of,upd,OV hr]
  ·simp only [Hl]at he
   obtain⟨rfl,rfl⟩:=look?_one he
   refine⟨.inr ⟨e,t,xs,rfl,?_⟩,Nat.le_refl _,by simp [CTy.nsl]⟩
   rw [fy _ _ (OV hr)];exact hr
 | .fn,cs,x,n,ρ,h=>by
  simp only [Rep]at h
  obtain⟨v,hv,hr⟩:=h
  refine⟨upd ρ n v,rfl,rfl,fun i hi=> ?_,?_,fun i e' he=>by
   simp only [Hl]at he
   obtain⟨rfl,rfl⟩:=look?_one he
   exact⟨.inl rfl,Nat.le_refl _,by simp [CTy.nsl]⟩⟩
  ·have:Nat.beq i n=false:=by
    cases hb:Nat.beq i n with
    |false=>rfl
    |true=>have:=q8 hb;simp only [CTy.nsl]at hi;omega
   simp only [Nm.of,upd,this,cond_false]
  ·rw [hv];simp [sR,Cell.conc,Nm.of,upd,hr]
 | .pair a b,cs,p,n,ρ,h=>by
  simp only [Rep]at h
  obtain⟨c1,c2,e,h1,h2⟩:=h
  obtain⟨ρ1,m1,f1,k1,e1,r1⟩:=Ts a c1 p.1 n ρ h1
  obtain⟨ρ2,m2,f2,k2,e2,r2⟩:=Ts b c2 p.2 (n + a.nsl) ρ1 (by rw [m1];exact h2)
  have hk: ∀ i,i < n + a.nsl→ρ2 i=ρ1 i:=fun i hi=>k2 i (.inl hi)
  refine⟨ρ2,m2.trans m1,f2.trans f1,fun i hi=> ?_,?_,fun i e' he=> ?_⟩
  ·simp only [CTy.nsl]at hi
   rw [k2 i (by omega),k1 i (by omega)]
  ·rw [e,e1,e2]
   simp only [sR,List.map_append]
   congr 1
   refine(uQ (U:=fun i=>Nat.ble n i&&Nat.blt i (n + a.nsl)) (fun i hi=>hk i ?_) (Sk a p.1 n)).symm
   simp only [w3,Nat.ble_eq,Nat.blt]at hi;omega
  ·simp only [Hl]at he
   rw [look?_append]at he
   cases hl:look? (Hl a p.1 n) i with
   |some e0=>
    simp [hl]at he;subst he
    obtain⟨h0,hlo,hhi⟩:=r1 i _ hl
    exact⟨h0.imp id fun⟨e1,t1,xs,he1,hr⟩=>⟨e1,t1,xs,he1,by rw [hk i hhi];exact hr⟩,hlo,by simp only [CTy.nsl];omega⟩
   |none=>
    simp [hl]at he
    obtain⟨h0,hlo,hhi⟩:=r2 i _ he
    rw [m1]at h0
    exact⟨h0,by omega,by simp only [CTy.nsl];omega⟩
def frz(ent:Nat→Option Entry):List Nat→List (Nat×Entry)
 | []=> []
 |id::r=>match ent id with
  |some (.row true e t xs)=>(id,.row false e t xs)::frz ent r
  |_=>frz ent r
def aiV(ent:Nat→Option Entry)(t:CTy):Cell→Option (List (E t)×List Nat)
 | .ref id=>match ent id with
  |some (.row _ _ t' xs)=>if h:t'=t then some (h ▸ xs,[id])else none
  |_=>none
 | .val (.slice none 0 0)=>some ([],[])
 |_=>none
def ahE(k:IntKind):List Cell→Option (Int×List Nat)
 | [.val (.int k' x)]=>if k'=k then some (x,[])else none
 |_=>none
def adc:List Cell→Option (Bool×List Nat)
 | [.val (.bool b)]=>some (b,[])
 |_=>none
def ahY:List Cell→Option (ByteArray×List Nat)
 | [.val (.string b)]=>some (b,[])
 |_=>none
def slC(ent:Nat→Option Entry)(t:CTy):List Cell→Option (List (E t)×List Nat)
 | [c]=>aiV ent t c
 |_=>none
def fnC:List Cell→Option (Unit×List Nat)
 | [.clo _ _]=>some ((),[])
 | [.bnd _ _]=>some ((),[])
 | [.ref _]=>some ((),[])
 | [.val (.func _ _ _)]=>some ((),[])
 |_=>none
theorem VQ{ρ:Nm}{cs:List Cell}{x:Unit}{ids:List Nat}(h:fnC cs=some (x,ids)):(∃ v,cs.map (Cell.conc ρ)= [v]∧HX v=v)∧ids= []:=by
 unfold fnC at h
 split at h
 ·cases h;exact⟨⟨_,rfl,rfl⟩,rfl⟩
 ·cases h;exact⟨⟨_,rfl,rfl⟩,rfl⟩
 ·cases h;exact⟨⟨_,rfl,HY _⟩,rfl⟩
 ·cases h;exact⟨⟨_,rfl,rfl⟩,rfl⟩
 ·cases h
def AM(ent:Nat→Option Entry):(t:CTy)→List Cell→Option (E t×List Nat)
 | .int k,cs=>ahE k cs
 | .bool,cs=>adc cs
 | .str,cs=>ahY cs
 | .pair a b,cs=>match AM ent a (cs.take a.size),AM ent b (cs.drop a.size)with
  |some (x,l),some (y,m)=>some ((x,y),l++m)
  |_,_=>none
 | .sl _ t,cs=>slC ent t cs
 | .fn,cs=>fnC cs
theorem look?_frz{ent:Nat→Option Entry}: ∀ {l:List Nat} {i:Nat} {e:Entry},look? (frz ent l) i=some e→ ∃ e0 t xs,ent i=some (.row true e0 t xs)∧e= .row false e0 t xs
 | [],i,e,h=>by simp [frz,look?]at h
 |id::r,i,e,h=>by
  simp only [frz]at h
  split at h
  ·rename_i e0 t xs he
   simp only [look?]at h
   cases hb:Nat.beq id i with
   |true=>
    have:=q8 hb;subst this
    simp at h;exact⟨e0,t,xs,he,h.symm⟩
   |false=>simp [hb]at h;exact look?_frz h
  ·exact look?_frz h
theorem look?_frz_mem{ent:Nat→Option Entry}: ∀ {l:List Nat} {i:Nat} {e0:TypeId} {t:CTy} {xs:List (E t)},i∈l→ent i=some (.row true e0 t xs)→look? (frz ent l) i=some (.row false e0 t xs)
 | [],i,_,_,_,h,_=>by cases h
 |id::r,i,e0,t,xs,h,he=>by
  simp only [frz]
  rcases List.mem_cons.1 h with rfl | h
  ·rw [he];exact look?_same _ _ _
  ·split
   ·rename_i e1 t1 xs1 he1
    simp only [look?]
    cases hb:Nat.beq id i with
    |true=>
     have:=q8 hb;subst this
     rw [he]at he1;cases he1;rfl
    |false=>exact look?_frz_mem h he
   ·exact look?_frz_mem h he
section
variable{B:Base}{ρ:Nm}{ent:Nat→Option Entry}{used:Nat→Bool}{w:World}
theorem Hp.freezes{e0:Nat→Option Entry}(hs: ∀ id e,e0 id=some e→ent id=some e)(h:Hp B ρ ent used w): ∀ (l:List Nat),∃ ρ':Nm,ρ'.nm=ρ.nm∧Ext B used ρ ρ'∧Hp B ρ' (aZ ent (frz e0 l)) used w
 | []=>⟨ρ,rfl,Ext.refl _ _ _,h⟩
 |id::r=>by
  obtain⟨ρ1,n1,x1,h1⟩:=Hp.freezes hs h r
  simp only [frz]
  split
  ·rename_i e t xs he
   cases hl:look? (frz e0 r) id with
   |none=>
    have he':aZ ent (frz e0 r) id=some (.row true e t xs):=by simp only [aZ,hl];exact hs _ _ he
    obtain⟨ρ2,n2,x2,h2⟩:=h1.freeze he'
    rw [yP]at h2
    exact⟨ρ2,n2.trans n1,x1.trans x2 fun _ h=>h,h2⟩
   |some e1=>
    obtain⟨e9,t0,xs0,h3,h4⟩:=look?_frz hl
    rw [he]at h3;cases h3
    refine⟨ρ1,n1,x1,?_⟩
    rw [show aZ ent ((id,Entry.row false e t xs)::frz e0 r)=aZ ent (frz e0 r) from funext fun i=>by
     simp only [aZ,look?]
     cases hb:Nat.beq id i with
     |true=>have:=q8 hb;subst this;simp [hl,h4]
     |false=>rfl]
    exact h1
  ·exact⟨ρ1,n1,x1,h1⟩
theorem agA{e0:Nat→Option Entry}(hs: ∀ id e,e0 id=some e→ent id=some e){l:List Nat}(h:Hp B ρ (aZ ent (frz e0 l)) used w){t:CTy}{c:Cell}{xs:List (E t)}{ids:List Nat}(hc:aiV e0 t c=some (xs,ids))(hl: ∀ id∈ids,id∈l):GO ρ.mem t (c.conc ρ) xs:=by
 unfold aiV at hc
 split at hc
 ·rename_i id
  split at hc
  ·rename_i own e t' ys he
   split at hc
   ·rename_i ht
    subst ht
    simp only [q9,z8]at hc
    obtain⟨rfl,rfl⟩:=hc
    cases own with
    |true=>
     have:=look?_frz_mem (hl id (by simp)) he
     have h2:aZ ent (frz e0 l) id=some (.row false e t' ys):=by simp only [aZ,this]
     exact(h.he id _ h2).1
    |false=>
     cases hq:look? (frz e0 l) id with
     |none=>exact(h.he id _ (by simp only [aZ,hq];exact hs _ _ he)).1
     |some e1=>obtain⟨_,_,_,h3,_⟩:=look?_frz hq;rw [he]at h3;cases h3
   ·cases hc
  ·cases hc
 ·simp only [q9,z8]at hc
  obtain⟨rfl,rfl⟩:=hc
  exact .inl ⟨.inl rfl,rfl⟩
 ·cases hc
theorem Lf{e0:Nat→Option Entry}(hs: ∀ id e,e0 id=some e→ent id=some e){l:List Nat}(h:Hp B ρ (aZ ent (frz e0 l)) used w): ∀ (t:CTy) (cs:List Cell) (x:E t) (ids:List Nat),AM e0 t cs=some (x,ids)→(∀ id∈ids,id∈l)→Rep ρ.mem t (cs.map (Cell.conc ρ)) x
 | .int k,cs,x,ids,hc,hl=>by
  simp only [AM]at hc
  unfold ahE at hc
  split at hc
  ·split at hc
   ·rename_i hk;subst hk
    cases hc
    exact rfl
   ·cases hc
  ·cases hc
 | .bool,cs,x,ids,hc,hl=>by
  simp only [AM]at hc
  unfold adc at hc
  split at hc
  ·cases hc;exact rfl
  ·cases hc
 | .str,cs,x,ids,hc,hl=>by
  simp only [AM]at hc
  unfold ahY at hc
  split at hc
  ·cases hc;exact rfl
  ·cases hc
 | .sl e t,cs,x,ids,hc,hl=>by
  simp only [AM]at hc
  unfold slC at hc
  split at hc
  ·simp only [Rep]
   exact⟨_,rfl,agA hs h hc hl⟩
  ·cases hc
 | .fn,cs,x,ids,hc,hl=>by
  simp only [AM]at hc
  simp only [Rep];exact(VQ hc).1
 | .pair a b,cs,x,ids,hc,hl=>by
  simp only [AM]at hc
  split at hc
  ·rename_i x1 l1 y1 m1 h1 h2
   cases hc
   simp only [Rep]
   refine⟨(cs.take a.size).map (Cell.conc ρ),(cs.drop a.size).map (Cell.conc ρ),?_,Lf hs h a _ _ _ h1 fun i hi=>hl i (by simp [hi]),Lf hs h b _ _ _ h2 fun i hi=>hl i (by simp [hi])⟩
   rw [← List.map_append,List.take_append_drop]
  ·cases hc
end
theorem Rep.one{H:Nat→Option Obj}: ∀ (t:CTy) (cs:List Value) (x:E t),Rep H t cs x→ ∀ u∈cs,u.oneCell'=true
 | .int _,_,_,h,u,hu=>by simp only [Rep]at h;rw [h]at hu;simp at hu;subst hu;rfl
 | .bool,_,_,h,u,hu=>by simp only [Rep]at h;rw [h]at hu;simp at hu;subst hu;rfl
 | .str,_,_,h,u,hu=>by simp only [Rep]at h;rw [h]at hu;simp at hu;subst hu;rfl
 | .pair a b,_,_,h,u,hu=>by
  simp only [Rep]at h
  obtain⟨c1,c2,e,h1,h2⟩:=h
  rw [e]at hu
  rcases w8.1 hu with hu | hu
  ·exact Rep.one a _ _ h1 u hu
  ·exact Rep.one b _ _ h2 u hu
 | .sl _ _,_,_,h,u,hu=>by
  simp only [Rep]at h
  obtain⟨v,e,hv⟩:=h
  rw [e]at hu;simp at hu;subst hu
  rcases hv with⟨rfl | ⟨_,_,rfl⟩,_⟩ | ⟨_,_,_,_,_,_,rfl,_⟩ <;> rfl
 | .fn,_,_,h,u,hu=>by
  simp only [Rep]at h
  obtain⟨v,e,hv⟩:=h
  rw [e]at hu;simp at hu;subst hu
  rw [← hv];exact ZH _
theorem uW: ∀ t:CTy,0 < t.size
 | .int _=>by simp [CTy.size]
 | .bool=>by simp [CTy.size]
 | .str=>by simp [CTy.size]
 | .pair a b=>by have:=uW a;simp only [CTy.size];omega
 | .sl _ _=>by simp [CTy.size]
 | .fn=>by simp [CTy.size]
theorem jY.nil(H:Nat→Option Obj)(t:CTy):jY H t [] []:=⟨by simp,fun i x h=>by simp at h⟩
theorem tO{n i z:Nat}(h:i < n):i * z + z≤n * z:=by
 have:(i + 1) * z≤n * z:=Nat.mul_le_mul_right _ h
 rwa [Nat.add_mul,Nat.one_mul]at this
theorem jY.append{H:Nat→Option Obj}{t:CTy}{cs ds:List Value}{xs ys:List (E t)}(h:jY H t cs xs)(h':jY H t ds ys):jY H t (cs++ds) (xs++ys):=by
 refine⟨by rw [w4,w4,h.1,h'.1,Nat.add_mul],fun i x hx=> ?_⟩
 by_cases hi:i < xs.length
 ·have hx':xs[i]? =some x:=by rwa [List.getElem?_append_left hi]at hx
  have:=h.2 i x hx'
  have Gt:=tO (z:=t.size) hi
  rw [List.drop_append_of_le_length (by rw [h.1];omega),List.take_append_of_le_length (by rw [List.length_drop,h.1];omega)]
  exact this
 ·have hx':ys[i - xs.length]? =some x:=by rwa [List.getElem?_append_right (by omega)]at hx
  have:=h'.2 _ x hx'
  have hm:i * t.size=xs.length * t.size + (i - xs.length) * t.size:=by rw [← Nat.add_mul];congr 1;omega
  rw [hm,← h.1,List.drop_append,List.drop_eq_nil_of_le (by omega),List.nil_append,Nat.add_sub_cancel_left]
  exact this
theorem jY.one{H:Nat→Option Obj}{t:CTy}{cs:List Value}{x:E t}(h:Rep H t cs x):jY H t cs [x]:=by
 have hl:=Rep.length t cs x h
 refine⟨by simp [hl],fun i y hy=> ?_⟩
 cases i with
 |zero=>simp at hy;subst hy;rw [Nat.zero_mul,List.drop_zero,← hl,List.take_length];exact h
 |succ i=>simp at hy
theorem jY.set{H:Nat→Option Obj}{t:CTy}{cs ds:List Value}{xs:List (E t)}(h:jY H t cs xs){i:Nat}(hi:i < xs.length){y:E t}(hy:Rep H t ds y):
  jY H t (cs.take (i * t.size)++ds++cs.drop (i * t.size + t.size)) (xs.set i y):=by
 have hl:=Rep.length t ds y hy
 have Gt:=tO (z:=t.size) hi
 refine⟨by simp only [w4,w5,List.length_drop,h.1,hl,j8];omega,fun j x hx=> ?_⟩
 rw [List.getElem?_set]at hx
 by_cases Yk:i=j
 ·subst Yk
  simp [hi]at hx;subst hx
  rw [List.append_assoc,List.drop_append,List.drop_take,Nat.sub_self,List.take_zero,List.nil_append,w5,h.1,Nat.min_eq_left (by omega),Nat.sub_self,List.drop_zero,
   List.take_append_of_le_length (by omega),← hl,List.take_length]
  exact hy
 ·simp only [Yk,if_false]at hx
  have hj:=(z6.1 hx).1
  have:=h.2 j x hx
  by_cases gm:j < i
  ·have h1:j * t.size + t.size≤i * t.size:=tO gm
   have e:(cs.take (i * t.size)++ds++cs.drop (i * t.size + t.size)).drop (j * t.size)=(cs.drop (j * t.size)).take (i * t.size - j * t.size)++(ds++cs.drop (i * t.size + t.size)):=by
    rw [List.append_assoc,List.drop_append_of_le_length (by rw [w5,h.1];omega),List.drop_take]
   rw [e,List.take_append_of_le_length (by rw [w5,List.length_drop,h.1];omega),List.take_take,Nat.min_eq_left (by omega)]
   exact this
  ·have hgt:i < j:=by omega
   have h1:i * t.size + t.size≤j * t.size:=tO hgt
   have e:(cs.take (i * t.size)++ds++cs.drop (i * t.size + t.size)).drop (j * t.size)=cs.drop (j * t.size):=by
    rw [List.drop_append,List.drop_eq_nil_of_le (by rw [w4,w5,h.1,hl];omega),List.nil_append,w4,w5,h.1,hl,List.drop_drop]
    congr 1;omega
   rw [e];exact this
theorem GO.cells{H:Nat→Option Obj}{w:World}(hH: ∀ b o,H b=some o→w.heap[b]? =some o){t:CTy}{v:Value}{xs:List (E t)}(h:GO H t v xs):
  (XG v∧xs= [])∨
  ∃ b off cap arr T fz,v= .slice (some ⟨b,off,none⟩) xs.length cap∧xs.length≤cap∧cap≤maxLen∧w.heap[b]? =some (.cells arr T fz)∧H b=some (.cells arr T fz)∧
   (xs= []∨jY H t ((arr.toList.drop off).take (xs.length * t.size)) xs):=by
 rcases h with h | ⟨b,off,cap,arr,T,fz,h1,h2,h3,h4,h5⟩
 ·exact .inl h
 ·refine .inr ⟨b,off,cap,arr,T,fz,h1,h2,h3,hH _ _ h4,h4,?_⟩
  cases hxs:xs with
  |nil=>exact .inl rfl
  |cons x0 xr=>
   right
   rw [← hxs]
   have jw:off + xs.length * t.size≤arr.toList.length:=by
    have hlast:xs.length - 1 < xs.length:=by rw [hxs];simp
    have:=h5 (xs.length - 1) _ (List.getElem?_eq_getElem hlast)
    have hl:=Rep.length t _ _ this
    rw [w5,List.length_drop]at hl
    have hp:=uW t
    have e:xs.length * t.size=(xs.length - 1) * t.size + t.size:=by
     have:(xs.length - 1 + 1) * t.size=(xs.length - 1) * t.size + t.size:=by rw [Nat.add_mul,Nat.one_mul]
     rw [← this];congr 1;omega
    omega
   refine⟨by rw [w5,List.length_drop];omega,fun i x hx=> ?_⟩
   have:=h5 i x hx
   have Gt:=tO (z:=t.size) (z6.1 hx).1
   rw [List.drop_take,List.drop_drop,List.take_take,Nat.min_eq_left (by omega)]
   exact this
end Go.SX
namespace Go.SX
open Go.RowKit
theorem jY.flat0{H H':Nat→Option Obj}{t:CTy}(hf:t.flat=true){cs:List Value}{xs:List (E t)}(h:jY H t cs xs):jY H' t cs xs:=by
 refine⟨h.1,fun i x hx=> ?_⟩
 rw [Rep.flat t _ _ hf (h.2 i x hx)]
 exact Rep.of_flat t x hf
def ajQ(ent:Nat→Option Entry)(e:TypeId)(t:CTy):Cell→Option (List (E t)×List Nat)
 | .ref id=>match ent id with
  |some (.row true e' t' xs)=>if h:t'=t then(bif Nat.beq e e' then some (h ▸ xs,[id])else none)else none
  |_=>none
 | .val (.slice none 0 0)=>some ([],[])
 |_=>none
def slT(ent:Nat→Option Entry)(e:TypeId)(t:CTy):List Cell→Option (List (E t)×List Nat)
 | [c]=>match t.flat with
  |true=>ajQ ent e t c
  |false=>none
 |_=>none
def AN(ent:Nat→Option Entry):(t:CTy)→List Cell→Option (E t×List Nat)
 | .int k,cs=>ahE k cs
 | .bool,cs=>adc cs
 | .str,cs=>ahY cs
 | .pair a b,cs=>match AN ent a (cs.take a.size),AN ent b (cs.drop a.size)with
  |some (x,l),some (y,m)=>some ((x,y),l++m)
  |_,_=>none
 | .sl e t,cs=>slT ent e t cs
 | .fn,cs=>fnC cs
def VN(ent:Nat→Option Entry)(t:CTy):List Cell→Nat→Option (List (E t)×List (List Nat))
 | [],0=>some ([],[])
 |_::_,0=>none
 |cs,n + 1=>match AN ent t (cs.take t.size),VN ent t (cs.drop t.size) n with
  |some (x,l),some (xs,m)=>some (x::xs,l::m)
  |_,_=>none
theorem So{α:Type}{l:List α}{k j:Nat}{a b:α}(h:(l.set k a)[j]? =some b):(j=k∧b=a)∨(j≠k∧l[j]? =some b):=by
 by_cases hkj:k=j
 ·subst hkj
  have gm:=(z6.1 h).1
  rw [j8]at gm
  rw [List.getElem?_set_self gm]at h;cases h;exact .inl ⟨rfl,rfl⟩
 ·rw [List.getElem?_set_ne hkj]at h
  exact .inr ⟨fun h=>hkj h.symm,h⟩
theorem QB{ent:Nat→Option Entry}: ∀ {t:CTy} {cs:List Cell} {x:E t} {ids:List Nat},AN ent t cs=some (x,ids)→ ∀ i∈ids,∃ e t xs,ent i=some (.row true e t xs)
 | .int k,cs,x,ids,hc,i,hi=>by
  simp only [AN]at hc;unfold ahE at hc
  split at hc
  ·split at hc
   ·cases hc;cases hi
   ·cases hc
  ·cases hc
 | .bool,cs,x,ids,hc,i,hi=>by
  simp only [AN]at hc;unfold adc at hc
  split at hc
  ·cases hc;cases hi
  ·cases hc
 | .str,cs,x,ids,hc,i,hi=>by
  simp only [AN]at hc;unfold ahY at hc
  split at hc
  ·cases hc;cases hi
  ·cases hc
 | .pair a b,cs,x,ids,hc,i,hi=>by
  simp only [AN]at hc
  split at hc
  ·rename_i h1 h2;cases hc
   rcases w8.1 hi with hi | hi
   ·exact QB h1 i hi
   ·exact QB h2 i hi
  ·cases hc
 | .sl e t,cs,x,ids,hc,i,hi=>by
  simp only [AN]at hc
  unfold slT at hc
  split at hc
  ·split at hc
   ·unfold ajQ at hc
    split at hc
    ·split at hc
     ·rename_i e' t' ys he'
      split at hc
      ·rename_i ht;subst ht
       cases hb:Nat.beq e e' with
       |false=>rw [hb]at hc;cases hc
       |true=>rw [hb]at hc;simp only [cond_true,q9,z8]at hc;obtain⟨_,rfl⟩:=hc;simp at hi;subst hi;exact⟨_,_,_,he'⟩
      ·cases hc
     ·cases hc
    ·cases hc;cases hi
    ·cases hc
   ·cases hc
  ·cases hc
 | .fn,cs,x,ids,hc,i,hi=>by
  simp only [AN]at hc
  rw [(VQ (ρ:=⟨fun _=> .slice none 0 0,fun _=>none,fun _=> []⟩) hc).2]at hi;cases hi
def NE(G:List Nat):List (Nat×Entry):=G.map fun g=>(g,Entry.gone)
theorem look?_gone: ∀ {G:List Nat} {i:Nat} {e:Entry},look? (NE G) i=some e→i∈G∧e= .gone
 | [],i,e,h=>by simp [NE,look?]at h
 |g::G,i,e,h=>by
  simp only [NE,w9,look?]at h
  cases hb:Nat.beq g i with
  |true=>
   have:=q8 hb;subst this
   simp at h;exact⟨by simp,h.symm⟩
  |false=>
   simp only [hb,cond_false]at h
   obtain⟨h1,h2⟩:=look?_gone (G:=G) h
   exact⟨by simp [h1],h2⟩
theorem look?_gone_mem: ∀ {G:List Nat} {i:Nat},i∈G→look? (NE G) i=some .gone
 | [],i,h=>by cases h
 |g::G,i,h=>by
  simp only [NE,w9,look?]
  cases hb:Nat.beq g i with
  |true=>rfl
  |false=>
   rcases List.mem_cons.1 h with rfl | h
   ·rw [show Nat.beq i i=true from Nat.beq_refl i]at hb;cases hb
   ·exact look?_gone_mem (G:=G) h
section
variable{B:Base}{ρ:Nm}{ent:Nat→Option Entry}{used:Nat→Bool}{w:World}
theorem Hp.fresh_none(h:Hp B ρ ent used w){b:Nat}(hb:w.heap.size≤b):B.mem b=none∧ρ.mem b=none:=by
 constructor
 ·cases hm:B.mem b with
  |none=>rfl
  |some o=>have:=(Array.getElem?_eq_some_iff.1 (h.hf.mem _ _ hm)).1;omega
 ·cases hm:ρ.mem b with
  |none=>rfl
  |some o=>have:=(Array.getElem?_eq_some_iff.1 (h.hf.dat _ _ hm)).1;omega
theorem agB(h:Hp B ρ ent used w){e:TypeId}{t:CTy}{c:Cell}{xs:List (E t)}{ids:List Nat}(hc:ajQ ent e t c=some (xs,ids))(hf:t.flat=true):
  ∃ ds,CC w e t.size (c.conc ρ) xs.length ds∧jY (fun _=>none) t ds xs∧(∀ b∈fB (c.conc ρ),∃ i∈ids,∃ e0,ent i=some e0∧b∈e0.ob ρ i)∧ ∀ i∈ids,∃ e0,ent i=some e0:=by
 unfold ajQ at hc
 split at hc
 ·rename_i id
  split at hc
  ·rename_i e' t' ys he
   split at hc
   ·rename_i ht
    subst ht
    cases hb:Nat.beq e e' with
    |false=>rw [hb]at hc;cases hc
    |true=>
     rw [hb]at hc
     simp only [cond_true,q9,z8]at hc
     obtain⟨rfl,rfl⟩:=hc
     have:=q8 hb;subst this
     obtain⟨ds,h1,h2,_⟩:=(h.he _ _ he).1
     exact⟨ds,h1,jY.flat0 hf h2,fun b hb=>⟨id,by simp,_,he,hb⟩,fun i hi=>by simp at hi;subst hi;exact⟨_,he⟩⟩
   ·cases hc
  ·cases hc
 ·simp only [q9,z8]at hc
  obtain⟨rfl,rfl⟩:=hc
  exact⟨[],Sm _ _ _,jY.nil _ _,fun b hb=>by simp [Cell.conc,fB]at hb,fun i hi=>by cases hi⟩
 ·cases hc
theorem Lz(h:Hp B ρ ent used w): ∀ (t:CTy) (cs:List Cell) (x:E t) (ids:List Nat),AN ent t cs=some (x,ids)→ids.Nodup→
  ∃ L,qr w t (cs.map (Cell.conc ρ)) x L∧(∀ b∈L,∃ i∈ids,∃ e0,ent i=some e0∧b∈e0.ob ρ i)∧ ∀ i∈ids,∃ e0,ent i=some e0
 | .int k,cs,x,ids,hc,_=>by
  simp only [AN]at hc
  unfold ahE at hc
  split at hc
  ·split at hc
   ·rename_i hk;subst hk
    cases hc
    exact⟨[],⟨rfl,rfl⟩,fun b hb=>(by cases hb),fun i hi=>(by cases hi)⟩
   ·cases hc
  ·cases hc
 | .bool,cs,x,ids,hc,_=>by
  simp only [AN]at hc
  unfold adc at hc
  split at hc
  ·cases hc;exact⟨[],⟨rfl,rfl⟩,fun b hb=>(by cases hb),fun i hi=>(by cases hi)⟩
  ·cases hc
 | .str,cs,x,ids,hc,_=>by
  simp only [AN]at hc
  unfold ahY at hc
  split at hc
  ·cases hc;exact⟨[],⟨rfl,rfl⟩,fun b hb=>(by cases hb),fun i hi=>(by cases hi)⟩
  ·cases hc
 | .sl e t,cs,x,ids,hc,_=>by
  simp only [AN]at hc
  unfold slT at hc
  split at hc
  ·rename_i c
   split at hc
   ·rename_i hf
    obtain⟨ds,h1,h2,h3,h4⟩:=agB h hc hf
    exact⟨_,by simp only [qr];exact⟨_,ds,rfl,rfl,hf,h1,h2⟩,h3,h4⟩
   ·cases hc
  ·cases hc
 | .fn,cs,x,ids,hc,_=>by
  simp only [AN]at hc
  obtain⟨h1,h2⟩:=VQ hc
  exact⟨[],by simp only [qr];exact⟨h1,trivial⟩,fun b hb=>(by cases hb),fun i hi=>(by rw [h2]at hi;cases hi)⟩
 | .pair a b,cs,x,ids,hc,hd=>by
  simp only [AN]at hc
  split at hc
  ·rename_i x1 l1 y1 m1 h1 h2
   cases hc
   obtain⟨hd1,hd2,hd3⟩:=List.nodup_append.1 hd
   obtain⟨L1,k1,k2,k3⟩:=Lz h a _ _ _ h1 hd1
   obtain⟨L2,j1,j2,j3⟩:=Lz h b _ _ _ h2 hd2
   refine⟨L1++L2,?_,fun b hb=> ?_,fun i hi=> ?_⟩
   ·simp only [qr]
    refine⟨_,_,L1,L2,?_,rfl,k1,j1,fun k hk hk'=> ?_⟩
    ·rw [← List.map_append,List.take_append_drop]
    ·obtain⟨i,hi,e0,he0,hb0⟩:=k2 k hk
     obtain⟨j,hj,e1,he1,hb1⟩:=j2 k hk'
     have:=h.hi _ _ _ _ k he0 he1 hb0 hb1
     exact hd3 i hi j hj this
   ·rcases w8.1 hb with hb | hb
    ·obtain⟨i,hi,r⟩:=k2 b hb;exact⟨i,List.mem_append_left _ hi,r⟩
    ·obtain⟨i,hi,r⟩:=j2 b hb;exact⟨i,w6 _ hi,r⟩
   ·rcases w8.1 hi with hi | hi
    ·exact k3 i hi
    ·exact j3 i hi
  ·cases hc
theorem Xq(h:Hp B ρ ent used w){t:CTy}: ∀ {n:Nat} {cs:List Cell} {xs:List (E t)} {idss:List (List Nat)},VN ent t cs n=some (xs,idss)→(qo idss).Nodup→
  ∃ Ls,Of w ρ t (cs.map (Cell.conc ρ)) xs Ls none∧(∀ (k:Nat) l,Ls[k]? =some l→ ∀ b∈l,∃ ids,idss[k]? =some ids∧ ∃ i∈ids,∃ e0,ent i=some e0∧b∈e0.ob ρ i)∧(∀ i∈qo idss,∃ e0,ent i=some e0)∧xs.length=n∧cs.length=n * t.size
 |0,[],xs,idss,hc,_=>by
  simp only [VN,q9,z8]at hc
  obtain⟨rfl,rfl⟩:=hc
  exact⟨[],⟨rfl,fun k hc h=>(by cases h),fun i x l _ hx=>by simp at hx,fun i j l l' k hl=>by simp at hl⟩,fun k l hl=>by simp at hl,fun i hi=>by simp [qo]at hi,rfl,by simp⟩
 |0,_::_,xs,idss,hc,_=>by simp [VN]at hc
 |n + 1,cs,xs,idss,hc,hd=>by
  have hc':(match AN ent t (cs.take t.size),VN ent t (cs.drop t.size) n with
   |some (x,l),some (xs,m)=>some (x::xs,l::m)
   |_,_=>none)=some (xs,idss):=by cases cs <;> exact hc
  split at hc'
  ·rename_i x l ys m h1 h2
   simp only [q9,z8]at hc'
   obtain⟨rfl,rfl⟩:=hc'
   simp only [qo]at hd
   obtain⟨hd1,hd2,hd3⟩:=List.nodup_append.1 hd
   obtain⟨L,k1,k2,k3⟩:=Lz h t _ _ _ h1 hd1
   obtain⟨Ls,⟨t1,t2,t3,t4⟩,j2,j3,j4,j5⟩:=Xq h h2 hd2
   have jw:(cs.take t.size).length=t.size:=by
    have hr: ∀ (t:CTy) (cs:List Value) (x:E t) (L:List Nat),qr w t cs x L→cs.length=t.size:=by
     intro t
     induction t with
     |int k=>intro cs x L h;simp only [qr]at h;rw [h.1];rfl
     |bool=>intro cs x L h;simp only [qr]at h;rw [h.1];rfl
     |str=>intro cs x L h;simp only [qr]at h;rw [h.1];rfl
     |pair a b iha ihb=>
      intro cs x L h;simp only [qr]at h
      obtain⟨c1,c2,_,_,rfl,_,h1,h2,_⟩:=h
      rw [w4,iha _ _ _ h1,ihb _ _ _ h2];rfl
     |sl e t _=>intro cs x L h;simp only [qr]at h;obtain⟨v,ds,rfl,_⟩:=h;rfl
     |fn=>intro cs x L h;simp only [qr]at h;obtain⟨⟨v,rfl,_⟩,_⟩:=h;rfl
    have:=hr _ _ _ _ k1
    rwa [List.length_map]at this
   have Rt:cs.length=t.size + (cs.drop t.size).length:=by
    have:=congrArg List.length (List.take_append_drop t.size cs)
    rw [w4,jw]at this;omega
   have hdrop: ∀ i,(((cs.map (Cell.conc ρ)).drop ((i + 1) * t.size)).take t.size)=((((cs.drop t.size).map (Cell.conc ρ)).drop (i * t.size)).take t.size):=by
    intro i
    rw [List.map_drop,List.drop_drop]
    congr 2
    rw [Nat.add_mul,Nat.one_mul];omega
   have hkey: ∀ (k:Nat) l0,(L::Ls)[k]? =some l0→ ∀ b∈l0,∃ ids,(l::m)[k]? =some ids∧ ∃ i∈ids,∃ e0,ent i=some e0∧b∈e0.ob ρ i:=by
    intro k l0 hl0 b hb
    cases k with
    |zero=>simp at hl0;subst hl0;exact⟨l,rfl,k2 b hb⟩
    |succ k=>exact j2 k l0 (by simpa using hl0) b hb
   refine⟨L::Ls,⟨by simp [t1],fun k hc h=>(by cases h),fun i x' l' _ hx hl=> ?_,fun i j l1 l2 k hi hj hk hk'=> ?_⟩,hkey,fun i hi=> ?_,by simp [j4],by rw [Rt,j5,Nat.add_mul,Nat.one_mul];omega⟩
   ·cases i with
    |zero=>
     simp at hx hl;subst hx hl
     rw [Nat.zero_mul,List.drop_zero,← List.map_take];exact k1
    |succ i=>
     rw [hdrop]
     exact t3 i x' l' (fun k hc h=>by cases h) (by simpa using hx) (by simpa using hl)
   ·obtain⟨ids1,q1,i1,hi1,e1,he1,hb1⟩:=hkey i l1 hi k hk
    obtain⟨ids2,q2,i2,hi2,e2,he2,hb2⟩:=hkey j l2 hj k hk'
    have:=h.hi _ _ _ _ k he1 he2 hb1 hb2
    subst this
    have hn: ∀ (L:List (List Nat)) (i j:Nat) (a b:List Nat) (x:Nat),(qo L).Nodup→L[i]? =some a→L[j]? =some b→x∈a→x∈b→i=j:=by
     intro L
     induction L with
     |nil=>intro i j a b x _ h;simp at h
     |cons u r ih=>
      intro i j a b x hn ha hb hxa hxb
      simp only [qo]at hn
      obtain⟨n1,n2,n3⟩:=List.nodup_append.1 hn
      cases i with
      |zero=>
       cases j with
       |zero=>rfl
       |succ j=>
        simp at ha hb;subst ha
        exact(n3 x hxa x (nS.2 ⟨j,b,hb,hxb⟩) rfl).elim
      |succ i=>
       cases j with
       |zero=>
        simp at ha hb;subst hb
        exact(n3 x hxb x (nS.2 ⟨i,a,ha,hxa⟩) rfl).elim
       |succ j=>
        simp at ha hb
        rw [ih i j a b x n2 ha hb hxa hxb]
    exact hn (l::m) i j ids1 ids2 i1 (by simpa [qo] using hd) q1 q2 hi1 hi2
   ·simp only [qo,w8]at hi
    rcases hi with hi | hi
    ·exact k3 i hi
    ·exact j3 i hi
  ·cases hc'
theorem Hp.toTree(h:Hp B ρ ent used w){ρ':Nm}{w':World}{X:Nat→Prop}{G:List Nat}{id:Nat}{new:List Nat}{e:TypeId}{t:CTy}{xs:List (E t)}{ho:Option (Nat×List Cell)}{cs:List Value}{Ls:List (List Nat)}
  (hc:Chg w w' X) (Ff: ∀ i,used i=true→ρ' i=ρ i) (Bp:ρ'.mem=ρ.mem) (hfp: ∀ i,i≠id→ρ'.fp i=ρ.fp i) (hG: ∀ g∈G,used g=true)
  (jy:bk used new id=true) (BV:(Entry.tree e t xs ho).inU (bk used new))
  (hX: ∀ k,X k→ ∃ g,(g=id∨g∈G)∧ ∃ e0,ent g=some e0∧k∈e0.ob ρ g)
  (hb: ∀ b,b∈fB (ρ' id)++qo Ls→w.heap.size≤b∨ ∃ g,(g=id∨g∈G)∧ ∃ e0,ent g=some e0∧b∈e0.ob ρ g)
  (pT:CC w' e t.size (ρ' id) xs.length cs) (qE:Of w' ρ' t cs xs Ls ho) (hf:ρ'.fp id=qo Ls) (hdj: ∀ b∈fB (ρ' id),b∉qo Ls):
  Ext B used ρ ρ'∧Hp B ρ' (aZ ent ((id,.tree e t xs ho)::NE G)) (bk used new) w':=by
 have QE: ∀ i x,look? ((id,Entry.tree e t xs ho)::NE G) i=some x→(i=id∧x= .tree e t xs ho)∨(i≠id∧i∈G∧x= .gone):=by
  intro i x hl
  simp only [look?]at hl
  cases hq:Nat.beq id i with
  |true=>simp [hq]at hl;exact .inl ⟨(q8 hq).symm,hl.symm⟩
  |false=>
   simp only [hq,cond_false]at hl
   obtain⟨h1,h2⟩:=look?_gone hl
   exact .inr ⟨fun he=>by subst he;simp at hq,h1,h2⟩
 have Gu: ∀ b,(∃ g,(g=id∨g∈G)∧ ∃ e0,ent g=some e0∧b∈e0.ob ρ g)→Was ent ρ ((id,Entry.tree e t xs ho)::NE G) b:=by
  rintro b ⟨g,hg,e0,h1,h2⟩
  cases hq:Nat.beq id g with
  |true=>
   have:=q8 hq;subst this
   exact⟨id,e0,_,h1,h2,look?_same _ _ _⟩
  |false=>
   rcases hg with rfl | hg
   ·simp at hq
   ·exact⟨g,e0,.gone,h1,h2,by simp only [look?,hq,cond_false];exact look?_gone_mem hg⟩
 refine h.chg hc Ff (fun _ _ hb=>by rw [Bp];exact hb) (fun k hk=>Gu k (hX k hk)) (fun _ _ hb=> .inl (by rw [← Bp];exact hb)) (fun i x hl=> ?_) (fun i x b hl hb'=> ?_) (fun i i' x x' b hl hl' hb1 hb2=> ?_) (fun i _ hl=> ?_)
 ·rcases QE i x hl with⟨rfl,rfl⟩ | ⟨_,hg,rfl⟩
  ·refine⟨?_,jy,BV⟩
   refine⟨cs,Ls,pT,qE,hf,by rw [hf];exact hdj,fun b hb'=> ?_⟩
   rw [hf]at hb'
   rw [Bp]
   rcases hb b hb' with h6 | ⟨g,_,e0,h1,h2⟩
   ·exact h.fresh_none h6
   ·exact(Entry.ob_lt (h.he g e0 h1).1 h2).2
  ·exact⟨trivial,ic _ (hG _ hg),trivial⟩
 ·rcases QE i x hl with⟨rfl,rfl⟩ | ⟨_,_,rfl⟩
  ·simp only [Entry.ob,hf]at hb'
   exact(hb b hb').imp id (Gu b)
  ·cases hb'
 ·rcases QE i x hl with⟨rfl,rfl⟩ | ⟨_,_,rfl⟩
  ·rcases QE i' x' hl' with⟨rfl,rfl⟩ | ⟨_,_,rfl⟩
   ·rfl
   ·cases hb2
  ·cases hb1
 ·refine hfp i fun he=> ?_
  subst he
  rw [look?_same]at hl;cases hl
end
def AL:(t:CTy)→E t→Nat→List (Nat×Entry)
 | .pair a b,p,n=>AL a p.1 n++AL b p.2 (n + a.nsl)
 | .sl e t,xs,n=> [(n,.row true e t xs)]
 |_,_,_=> []
theorem qr.length{w:World}: ∀ {t:CTy} {cs:List Value} {x:E t} {L:List Nat},qr w t cs x L→cs.length=t.size
 | .int _,_,_,_,h=>by simp only [qr]at h;rw [h.1];rfl
 | .bool,_,_,_,h=>by simp only [qr]at h;rw [h.1];rfl
 | .str,_,_,_,h=>by simp only [qr]at h;rw [h.1];rfl
 | .pair a b,_,_,_,h=>by
  simp only [qr]at h
  obtain⟨c1,c2,_,_,rfl,_,h1,h2,_⟩:=h
  rw [w4,h1.length,h2.length];rfl
 | .sl _ _,_,_,_,h=>by simp only [qr]at h;obtain⟨v,ds,rfl,_⟩:=h;rfl
 | .fn,_,_,_,h=>by simp only [qr]at h;obtain⟨⟨v,rfl,_⟩,_⟩:=h;rfl
theorem QN{w:World}: ∀ (t:CTy) (cs:List Value) (x:E t) (L:List Nat) (n:Nat) (ρ:Nm),qr w t cs x L→
  ∃ ρ':Nm,ρ'.mem=ρ.mem∧ρ'.fp=ρ.fp∧(∀ i,i < n∨n + t.nsl≤i→ρ' i=ρ i)∧cs=(sR t x n).map (Cell.conc ρ')∧
   (∀ i e,look? (AL t x n) i=some e→(∃ e0 t0 xs ds,e= .row true e0 t0 xs∧CC w e0 t0.size (ρ' i) xs.length ds∧jY (fun _=>none) t0 ds xs∧ ∀ b∈fB (ρ' i),b∈L)∧n≤i∧i < n + t.nsl)∧
   (∀ i j e e' b,look? (AL t x n) i=some e→look? (AL t x n) j=some e'→b∈fB (ρ' i)→b∈fB (ρ' j)→i=j)
 | .int k,cs,x,L,n,ρ,h=>⟨ρ,rfl,rfl,fun _ _=>rfl,by simp only [qr]at h;rw [h.1];rfl,fun i e he=>by simp [AL,look?]at he,fun i j e e' b he=>by simp [AL,look?]at he⟩
 | .bool,cs,x,L,n,ρ,h=>⟨ρ,rfl,rfl,fun _ _=>rfl,by simp only [qr]at h;rw [h.1];rfl,fun i e he=>by simp [AL,look?]at he,fun i j e e' b he=>by simp [AL,look?]at he⟩
 | .str,cs,x,L,n,ρ,h=>⟨ρ,rfl,rfl,fun _ _=>rfl,by simp only [qr]at h;rw [h.1];rfl,fun i e he=>by simp [AL,look?]at he,fun i j e e' b he=>by simp [AL,look?]at he⟩
 | .sl e t,cs,xs,L,n,ρ,h=>by
  simp only [qr]at h
  obtain⟨v,ds,hv,hL,hf,ho,hr⟩:=h
  have hs:=sX ho
  refine⟨upd ρ n v,rfl,rfl,fun i hi=> ?_,?_,fun i e' he=> ?_,fun i j e1 e2 b h1 h2 _ _=> ?_⟩
  ·have:Nat.beq i n=false:=by
    cases hb:Nat.beq i n with
    |false=>rfl
    |true=>have:=q8 hb;simp only [CTy.nsl]at hi;omega
   simp only [Nm.of,upd,this,cond_false]
  ·rw [hv];simp [sR,Cell.conc,Nm.of,upd,hs]
  ·simp only [AL]at he
   obtain⟨rfl,rfl⟩:=look?_one he
   refine⟨⟨e,t,xs,ds,rfl,?_,hr,?_⟩,Nat.le_refl _,by simp [CTy.nsl]⟩
   ·rw [fy _ _ hs];exact ho
   ·rw [fy _ _ hs,hL];exact fun _ h=>h
  ·simp only [AL]at h1 h2
   exact(look?_one h1).1.trans (look?_one h2).1.symm
 | .fn,cs,x,L,n,ρ,h=>by
  simp only [qr]at h
  obtain⟨⟨v,hv,hr⟩,_⟩:=h
  refine⟨upd ρ n v,rfl,rfl,fun i hi=> ?_,?_,fun i e' he=>by simp [AL,look?]at he,fun i j e e' b he=>by simp [AL,look?]at he⟩
  ·have:Nat.beq i n=false:=by
    cases hb:Nat.beq i n with
    |false=>rfl
    |true=>have:=q8 hb;simp only [CTy.nsl]at hi;omega
   simp only [Nm.of,upd,this,cond_false]
  ·rw [hv];simp [sR,Cell.conc,Nm.of,upd,hr]
 | .pair a b,cs,p,L,n,ρ,h=>by
  simp only [qr]at h
  obtain⟨c1,c2,L1,L2,e,rfl,h1,h2,h3⟩:=h
  obtain⟨ρ1,m1,f1,k1,e1,r1,d1⟩:=QN a c1 p.1 L1 n ρ h1
  obtain⟨ρ2,m2,f2,k2,e2,r2,d2⟩:=QN b c2 p.2 L2 (n + a.nsl) ρ1 h2
  have hk: ∀ i,i < n + a.nsl→ρ2 i=ρ1 i:=fun i hi=>k2 i (.inl hi)
  have hr: ∀ i e',look? (AL (.pair a b) p n) i=some e'→(∃ e0 t0 xs ds,e'= .row true e0 t0 xs∧CC w e0 t0.size (ρ2 i) xs.length ds∧jY (fun _=>none) t0 ds xs∧((i < n + a.nsl∧look? (AL a p.1 n) i=some e'∧ ∀ b∈fB (ρ2 i),b∈L1)∨(n + a.nsl≤i∧look? (AL b p.2 (n + a.nsl)) i=some e'∧ ∀ b∈fB (ρ2 i),b∈L2)))∧n≤i∧i < n + (CTy.pair a b).nsl:=by
   intro i e' he
   simp only [AL]at he
   rw [look?_append]at he
   cases hl:look? (AL a p.1 n) i with
   |some e0=>
    simp [hl]at he;subst he
    obtain⟨⟨e1,t1,xs,ds,he1,hr,hr2,hr3⟩,hlo,hhi⟩:=r1 i _ hl
    refine⟨⟨e1,t1,xs,ds,he1,by rw [hk i hhi];exact hr,hr2,.inl ⟨hhi,rfl,by rw [hk i hhi];exact hr3⟩⟩,hlo,by simp only [CTy.nsl];omega⟩
   |none=>
    simp [hl]at he
    obtain⟨⟨e1,t1,xs,ds,he1,hr,hr2,hr3⟩,hlo,hhi⟩:=r2 i _ he
    exact⟨⟨e1,t1,xs,ds,he1,hr,hr2,.inr ⟨hlo,he,hr3⟩⟩,by omega,by simp only [CTy.nsl];omega⟩
  refine⟨ρ2,m2.trans m1,f2.trans f1,fun i hi=> ?_,?_,fun i e' he=> ?_,fun i j e1 e2 b he he' hb hb'=> ?_⟩
  ·simp only [CTy.nsl]at hi
   rw [k2 i (by omega),k1 i (by omega)]
  ·rw [e,e1,e2]
   simp only [sR,List.map_append]
   congr 1
   refine(uQ (U:=fun i=>Nat.ble n i&&Nat.blt i (n + a.nsl)) (fun i hi=>hk i ?_) (Sk a p.1 n)).symm
   simp only [w3,Nat.ble_eq,Nat.blt]at hi;omega
  ·obtain⟨⟨e1,t1,xs,ds,he1,hr1,hr2,hr3⟩,hlo,hhi⟩:=hr i e' he
   refine⟨⟨e1,t1,xs,ds,he1,hr1,hr2,fun b hb=> ?_⟩,hlo,hhi⟩
   rcases hr3 with⟨_,_,q⟩ | ⟨_,_,q⟩
   ·exact List.mem_append_left _ (q b hb)
   ·exact w6 _ (q b hb)
  ·obtain⟨⟨_,_,_,_,_,_,_,q1⟩,_⟩:=hr i e1 he
   obtain⟨⟨_,_,_,_,_,_,_,q2⟩,_⟩:=hr j e2 he'
   rcases q1 with⟨u1,v1,w1⟩ | ⟨u1,v1,w1⟩ <;> rcases q2 with⟨u2,v2,w2⟩ | ⟨u2,v2,w2⟩
   ·exact d1 i j e1 e2 b v1 v2 (by rw [← hk i u1];exact hb) (by rw [← hk j u2];exact hb')
   ·exact(h3 b (w1 b hb) (w2 b hb')).elim
   ·exact(h3 b (w2 b hb') (w1 b hb)).elim
   ·exact d2 i j e1 e2 b v1 v2 hb hb'
theorem qr.one{w:World}: ∀ {t:CTy} {cs:List Value} {x:E t} {L:List Nat},qr w t cs x L→ ∀ u∈cs,u.oneCell'=true
 | .int _,_,_,_,h,u,hu=>by simp only [qr]at h;rw [h.1]at hu;simp at hu;subst hu;rfl
 | .bool,_,_,_,h,u,hu=>by simp only [qr]at h;rw [h.1]at hu;simp at hu;subst hu;rfl
 | .str,_,_,_,h,u,hu=>by simp only [qr]at h;rw [h.1]at hu;simp at hu;subst hu;rfl
 | .pair _ _,_,_,_,h,u,hu=>by
  simp only [qr]at h
  obtain⟨c1,c2,_,_,rfl,_,h1,h2,_⟩:=h
  rcases w8.1 hu with hu | hu
  ·exact h1.one u hu
  ·exact h2.one u hu
 | .sl _ _,_,_,_,h,u,hu=>by
  simp only [qr]at h
  obtain⟨v,ds,rfl,_,_,ho,_⟩:=h
  simp at hu;subst hu
  rcases ho.2 with⟨hz,_⟩ | ⟨_,_,_,rfl,_⟩
  ·rcases hz with rfl | ⟨_,rfl⟩ <;> rfl
  ·rfl
 | .fn,_,_,_,h,u,hu=>by
  simp only [qr]at h
  obtain⟨⟨v,rfl,hv⟩,_⟩:=h
  simp at hu;subst hu
  rw [← hv];exact ZH _
theorem Of.one{w:World}{ρ:Nm}{t:CTy}{cs:List Value}{xs:List (E t)}{Ls:List (List Nat)}(h:Of w ρ t cs xs Ls none)(hl:cs.length=xs.length * t.size): ∀ u∈cs,u.oneCell'=true:=by
 intro u hu
 obtain⟨j,hj⟩:=List.mem_iff_getElem?.1 hu
 have gm:=(z6.1 hj).1
 have hp:=uW t
 rw [hl]at gm
 have hi:j / t.size < xs.length:=Nat.div_lt_of_lt_mul (by rw [Nat.mul_comm];exact gm)
 refine(h.2.2.1 _ _ _ (fun _ _ h=>by cases h) (List.getElem?_eq_getElem hi) (List.getElem?_eq_getElem (by rw [h.1];exact hi))).one u ?_
 refine List.mem_iff_getElem?.2 ⟨j % t.size,?_⟩
 rw [List.getElem?_take,if_pos (Nat.mod_lt _ hp),List.getElem?_drop,Nat.mul_comm,Nat.div_add_mod]
 exact hj
theorem aap{w:World}{e e':TypeId}{z n:Nat}{v:Value}{cs cs':List Value}(h:CC w e z v n cs)(h':CC w e' z v n cs'):cs=cs':=by
 have nilOf: ∀ {l:List Value},l.length=n * z→n=0→l= []:=fun hl hn=>List.length_eq_zero_iff.1 (by rw [hl,hn,Nat.zero_mul])
 rcases h.2 with⟨_,hn⟩ | ⟨g,cap,cur,hv,h0,hg,Gt,TZ,FG,Ub⟩
 ·rw [nilOf h.1 hn,nilOf h'.1 hn]
 ·rcases h'.2 with⟨_,hn⟩ | ⟨g',cap',cur',hv',h0',hg',hle',hcm',hsz',htk'⟩
  ·rw [nilOf h.1 hn,nilOf h'.1 hn]
  ·rw [hv]at hv'
   simp only [Value.slice.injEq,q9,Addr.mk.injEq]at hv'
   obtain⟨⟨rfl,_⟩,_,_⟩:=hv'
   rw [hg]at hg';cases hg'
   rw [← Ub,← htk']
theorem Tb{α:Type}: ∀ (l r:List (List α)),qo (l++r)=qo l++qo r
 | [],r=>rfl
 |a::l,r=>by simp only [List.cons_append,qo,Tb l r,List.append_assoc]
theorem Of.append{w:World}{ρ:Nm}{t:CTy}{cs ds:List Value}{xs ys:List (E t)}{Ls Ms:List (List Nat)}(h:Of w ρ t cs xs Ls none)(h':Of w ρ t ds ys Ms none)(hl:cs.length=xs.length * t.size)
  (hd: ∀ b∈qo Ls,b∉qo Ms):Of w ρ t (cs++ds) (xs++ys) (Ls++Ms) none:=by
 refine⟨by simp [h.1,h'.1],fun k hc hh=>(by cases hh),fun i x l _ hx hll=> ?_,fun i j l1 l2 k hi hj hk hk'=> ?_⟩
 ·by_cases hi:i < xs.length
  ·rw [List.getElem?_append_left hi]at hx
   rw [List.getElem?_append_left (by rw [h.1];exact hi)]at hll
   have Gt:=tO (z:=t.size) hi
   rw [List.drop_append_of_le_length (by rw [hl];omega),List.take_append_of_le_length (by rw [List.length_drop,hl];omega)]
   exact h.2.2.1 i x l (fun _ _ h=>by cases h) hx hll
  ·rw [List.getElem?_append_right (by omega)]at hx
   rw [List.getElem?_append_right (by rw [h.1];omega),h.1]at hll
   have hm:i * t.size=xs.length * t.size + (i - xs.length) * t.size:=by rw [← Nat.add_mul];congr 1;omega
   rw [hm,← hl,List.drop_append,List.drop_eq_nil_of_le (by omega),List.nil_append,Nat.add_sub_cancel_left]
   exact h'.2.2.1 _ x l (fun _ _ h=>by cases h) hx hll
 ·have side: ∀ (i:Nat) l,(Ls++Ms)[i]? =some l→(i < Ls.length∧Ls[i]? =some l)∨(Ls.length≤i∧Ms[i - Ls.length]? =some l):=by
   intro i l hi
   by_cases gm:i < Ls.length
   ·rw [List.getElem?_append_left gm]at hi;exact .inl ⟨gm,hi⟩
   ·rw [List.getElem?_append_right (by omega)]at hi;exact .inr ⟨by omega,hi⟩
  rcases side i l1 hi with⟨a1,a2⟩ | ⟨a1,a2⟩ <;> rcases side j l2 hj with⟨b1,b2⟩ | ⟨b1,b2⟩
  ·exact h.2.2.2 i j l1 l2 k a2 b2 hk hk'
  ·exact(hd k (nS.2 ⟨_,_,a2,hk⟩) (nS.2 ⟨_,_,b2,hk'⟩)).elim
  ·exact(hd k (nS.2 ⟨_,_,b2,hk'⟩) (nS.2 ⟨_,_,a2,hk⟩)).elim
  ·have:=h'.2.2.2 _ _ l1 l2 k a2 b2 hk hk';omega
theorem Of.one1{w:World}{ρ:Nm}{t:CTy}{cs:List Value}{x:E t}{L:List Nat}(h:qr w t cs x L):Of w ρ t cs [x] [L] none:=by
 refine⟨rfl,fun k hc hh=>(by cases hh),fun i y l _ hy hl=> ?_,fun i j l l' k hi hj _ _=> ?_⟩
 ·cases i with
  |zero=>simp at hy hl;subst hy hl;rw [Nat.zero_mul,List.drop_zero,← h.length,List.take_length];exact h
  |succ i=>simp at hy
 ·have h1:=(z6.1 hi).1
  have h2:=(z6.1 hj).1
  simp at h1 h2;omega
theorem Of.nil(w:World)(ρ:Nm)(t:CTy):Of w ρ t [] [] [] none:=⟨rfl,fun k hc hh=>(by cases hh),fun i y l _ hy hl=>(by simp at hy),fun i j l l' k hi hj _ _=>(by simp at hi)⟩
theorem ab1: ∀ (n:Nat),qo (z7 n ([]:List Nat))= []
 |0=>rfl
 |n + 1=>by rw [List.replicate_succ];simp only [qo,ab1 n,List.append_nil]
section
variable{B:Base}{ρ:Nm}{ent:Nat→Option Entry}{used:Nat→Bool}{w:World}
theorem aeH(h:Hp B ρ ent used w){t:CTy}{cs:List Cell}{x:E t}{ids:List Nat}(hc:AN (fun _=>none) t cs=some (x,ids))(w':World):qr w' t (cs.map (Cell.conc ρ)) x []:=by
 have h0:Hp B ρ (fun _=>none) used w:=⟨fun id e he=>(by cases he),fun id id' e e' b he=>(by cases he),h.hf⟩
 have hids:ids= []:=by
  cases ids with
  |nil=>rfl
  |cons i r=>obtain⟨_,_,_,hh⟩:=QB hc i (by simp);cases hh
 subst hids
 obtain⟨L,d1,d2,_⟩:=Lz h0 t cs x [] hc List.nodup_nil
 have hL:L= []:=by
  cases L with
  |nil=>rfl
  |cons b r=>obtain⟨i,hi,_⟩:=d2 b (by simp);cases hi
 subst hL
 exact d1.keep fun b hb=>(by cases hb)
theorem Hp.treeNew(h:Hp B ρ ent used w){nid:Nat}(OE:used nid=false){e:TypeId}{t:CTy}{xs:List (E t)}{Ls:List (List Nat)}{G:List Nat}{cs:List Value}{w':World}{v:Value}(hg:w.grownBy w' none)
  (pT:CC w' e t.size v xs.length cs) (qE:Of w ρ t cs xs Ls none) (hG: ∀ g∈G,used g=true) (hb: ∀ b∈fB v,w.heap.size≤b) (hL: ∀ b∈qo Ls,∃ g∈G,∃ e0,ent g=some e0∧b∈e0.ob ρ g):
  ∃ ρ':Nm,ρ' nid=v∧Ext B used ρ ρ'∧Hp B ρ' (aZ ent ((nid,.tree e t xs none)::NE G)) (bk used [nid]) w':=by
 have Ff: ∀ i,used i=true→upd ρ nid v i=ρ i:=Ew OE ρ v
 let ρ':Nm:=⟨(upd ρ nid v).nm,ρ.mem,fun i=>bif Nat.beq i nid then qo Ls else ρ.fp i⟩
 have hv:ρ' nid=v:=fy ρ nid (sX pT)
 have gm: ∀ b∈qo Ls,b < w.heap.size:=fun b hb=>qE.blk b hb
 have hc:=Chg.grown hg
 have:=h.toTree (ρ':=ρ') (w':=w') (G:=G) (id:=nid) (new:= [nid]) (e:=e) (t:=t) (xs:=xs) (ho:=none) (cs:=cs) (Ls:=Ls)
  hc Ff rfl (fun i hi'=> ?_) hG (by simp [bk,memN]) trivial (fun k hk=>by cases hk) (fun b hb'=> ?_) (by rw [hv];exact pT)
  (qE.keep (fun b hb'=>hc.block b (gm b hb') (fun h=>by cases h)) (fun _ _ h=>by cases h))
  (by show (bif Nat.beq nid nid then _ else _)=_;simp) (fun b h1 h2=> ?_)
 ·exact⟨ρ',hv,this.1,this.2⟩
 ·show (bif Nat.beq i nid then _ else ρ.fp i)=ρ.fp i
  cases hq:Nat.beq i nid with
  |false=>rfl
  |true=>exact(hi' (q8 hq)).elim
 ·rw [hv]at hb'
  rcases w8.1 hb' with h1 | h1
  ·exact .inl (hb b h1)
  ·obtain⟨g,hg,r⟩:=hL b h1;exact .inr ⟨g,.inr hg,r⟩
 ·rw [hv]at h1
  have:=hb b h1
  have:=gm b h2
  omega
theorem acJ{used:Nat→Bool}{l:List Nat}{i:Nat}(h:memN l i=true):bk used l i=true:=by simp [bk,h]
theorem Hp.treeOpen(h:Hp B ρ ent used w){id:Nat}{e:TypeId}{t:CTy}{xs:List (E t)}(he:ent id=some (.tree e t xs none)){k:Nat}{x:E t}(hx:xs[k]? =some x){nid:Nat}(OE: ∀ i∈aK nid t.nsl,used i=false):
  ∃ ρ':Nm,Ext B used ρ ρ'∧ρ'.mem=ρ.mem∧Hp B ρ' (aZ ent ((id,.tree e t xs (some (k,sR t x nid)))::AL t x nid)) (bk used (aK nid t.nsl)) w:=by
 obtain⟨⟨cs,Ls,h1,⟨t1,t2,t3,t4⟩,h3,h4,h5⟩,jy,_⟩:=h.he _ _ he
 have hk:k < xs.length:=(z6.1 hx).1
 obtain⟨l,hl⟩: ∃ l,Ls[k]? =some l:=⟨_,List.getElem?_eq_getElem (by omega)⟩
 have hd:=t3 k x l (fun _ _ h=>by cases h) hx hl
 obtain⟨ρ1,m1,f1,k1,e1,r1,d1⟩:=QN t _ x l nid ρ hd
 have Bp: ∀ i,i∈aK nid t.nsl↔nid≤i∧i < nid + t.nsl:=fun i=>by
  rw [← oW]
  constructor
  ·intro hi
   have: ∀ (l:List Nat),i∈l→memN l i=true:=by
    intro l
    induction l with
    |nil=>intro h;cases h
    |cons a r ih=>
     intro h
     simp only [memN]
     cases hb:Nat.beq a i with
     |true=>rfl
     |false=>
      rcases List.mem_cons.1 h with rfl | h
      ·simp at hb
      ·exact ih h
   exact this _ hi
  ·intro hi
   have: ∀ (l:List Nat),memN l i=true→i∈l:=by
    intro l
    induction l with
    |nil=>intro h;cases h
    |cons a r ih=>
     intro h
     simp only [memN]at h
     cases hb:Nat.beq a i with
     |true=>have:=q8 hb;simp [this]
     |false=>rw [hb]at h;exact List.mem_cons_of_mem _ (ih h)
   exact this _ hi
 have Ff: ∀ i,used i=true→ρ1 i=ρ i:=fun i hi=>k1 i (by
  apply Classical.byContradiction
  intro hn
  have:i∈aK nid t.nsl:=(Bp i).2 (by omega)
  rw [OE i this]at hi;cases hi)
 let ρ':Nm:=⟨ρ1.nm,ρ1.mem,fun i=>bif Nat.beq i id then qo (Ls.set k [])else ρ.fp i⟩
 have hρ: ∀ i,ρ' i=ρ1 i:=fun _=>rfl
 have hcon: ∀ c:Cell,c.conc ρ'=c.conc ρ1:=fun c=>Cell.conc_congr (U:=fun _=>true) (fun _ _=>rfl) (by cases c <;> simp [Cell.inU])
 have Ua: ∀ b,b∈qo (Ls.set k [])→b∈qo Ls:=by
  intro b hb
  obtain⟨j,l',hj,hb'⟩:=nS.1 hb
  rcases So hj with⟨_,rfl⟩ | ⟨_,hj⟩
  ·cases hb'
  ·exact nS.2 ⟨j,l',hj,hb'⟩
 have hout: ∀ b∈l,b∉qo (Ls.set k []):=by
  intro b hb hb2
  obtain⟨j,l',hj,hb'⟩:=nS.1 hb2
  rcases So hj with⟨_,rfl⟩ | ⟨Oc,hj⟩
  ·cases hb'
  ·exact Oc (t4 k j l l' b hl hj hb hb').symm
 have hfid:ρ'.fp id=qo (Ls.set k []):=by show (bif Nat.beq id id then _ else _)=_;simp
 have hlk: ∀ i x',look? ((id,Entry.tree e t xs (some (k,sR t x nid)))::AL t x nid) i=some x'→(i=id∧x'= .tree e t xs (some (k,sR t x nid)))∨(i≠id∧look? (AL t x nid) i=some x'):=by
  intro i x' hl
  simp only [look?]at hl
  cases hq:Nat.beq id i with
  |true=>simp [hq]at hl;exact .inl ⟨(q8 hq).symm,hl.symm⟩
  |false=>
   simp only [hq,cond_false]at hl
   exact .inr ⟨fun he=>by subst he;simp at hq,hl⟩
 have Gu: ∀ b,b∈fB (ρ id)++ρ.fp id→Was ent ρ ((id,Entry.tree e t xs (some (k,sR t x nid)))::AL t x nid) b:=fun b hb=>⟨id,_,_,he,hb,look?_same _ _ _⟩
 have hfpl: ∀ b∈l,b∈ρ.fp id:=fun b hb=>by rw [h3];exact nS.2 ⟨k,l,hl,hb⟩
 have key:=h.chg (ρ':=ρ') (es:=(id,.tree e t xs (some (k,sR t x nid)))::AL t x nid) (new:=aK nid t.nsl) (Chg.refl w (fun _=>False)) (fun i hi=>(hρ i).trans (Ff i hi)) (fun b o hb=>by show ρ1.mem b=some o;rw [m1];exact hb) (fun _ hx=>hx.elim)
  (fun b o hb=> .inl (by rw [← m1];exact hb)) (fun i x' hl'=> ?_) (fun i x' b hl' hb=> ?_) (fun i j x1 x2 b hl1 hl2 hb1 hb2=> ?_) (fun i hi hl'=> ?_)
 ·exact⟨ρ',key.1,m1,key.2⟩
 ·rcases hlk i x' hl' with⟨rfl,rfl⟩ | ⟨Oc,hl2⟩
  ·refine⟨?_,ic _ jy,fun c hc=> ?_⟩
   ·refine⟨cs,Ls.set k [],?_,⟨by simp [t1],fun j hc hj=> ?_,fun j y l' hj hy hl2=> ?_,fun a b l1 l2 q ha hb hq1 hq2=> ?_⟩,hfid,fun b hb hb2=> ?_,fun b hb=> ?_⟩
    ·rw [hρ,Ff i jy];exact h1
    ·cases hj
     refine⟨hk,by simp [t1,hk],?_⟩
     rw [e1]
     exact(List.map_congr_left fun c _=>hcon c).symm
    ·have Oc:k≠j:=fun hkj=>hj k _ rfl hkj.symm
     rw [List.getElem?_set_ne Oc]at hl2
     exact t3 j y l' (fun _ _ h=>by cases h) hy hl2
    ·have hg: ∀ (a:Nat) l1,(Ls.set k [])[a]? =some l1→q∈l1→Ls[a]? =some l1:=by
      intro a l1 ha hq
      rcases So ha with⟨_,rfl⟩ | ⟨_,ha⟩
      ·cases hq
      ·exact ha
     exact t4 a b l1 l2 q (hg a l1 ha hq1) (hg b l2 hb hq2) hq1 hq2
    ·rw [hρ,Ff i jy]at hb
     rw [hfid]at hb2
     exact h4 b hb (by rw [h3];exact Ua b hb2)
    ·rw [hρ,Ff i jy,hfid]at hb
     show B.mem b=none∧ρ1.mem b=none
     rw [m1]
     refine h5 b ?_
     rcases w8.1 hb with hb | hb
     ·exact List.mem_append_left _ hb
     ·exact w6 _ (by rw [h3];exact Ua b hb)
   ·refine Cell.inU_mono (fun j hj=> ?_) (Sk t x nid c hc)
    refine acJ (oW.2 ?_)
    simp only [w3,Nat.ble_eq,Nat.blt]at hj
    omega
  ·obtain⟨⟨e0,t0,ys,ds,rfl,q1,q2,q3⟩,hlo,hhi⟩:=r1 i _ hl2
   refine⟨⟨ds,q1,jY.mono (fun _ _ h=>by cases h) q2,fun b hb=> ?_⟩,acJ (oW.2 ⟨hlo,hhi⟩),trivial⟩
   show B.mem b=none∧ρ1.mem b=none
   rw [m1]
   exact h5 b (w6 _ (hfpl b (q3 b hb)))
 ·rcases hlk i x' hl' with⟨rfl,rfl⟩ | ⟨Oc,hl2⟩
  ·simp only [Entry.ob]at hb
   rw [hρ,Ff i jy,hfid]at hb
   refine .inr (Gu b ?_)
   rcases w8.1 hb with hb | hb
   ·exact List.mem_append_left _ hb
   ·exact w6 _ (by rw [h3];exact Ua b hb)
  ·obtain⟨⟨e0,t0,ys,ds,rfl,q1,q2,q3⟩,_⟩:=r1 i _ hl2
   exact .inr (Gu b (w6 _ (hfpl b (q3 b hb))))
 ·have aS: ∀ j x2,look? (AL t x nid) j=some x2→b∈x2.ob ρ' j→b∈fB (ρ' id)++ρ'.fp id→False:=by
   intro j x2 hl2 hb2 hb1
   obtain⟨⟨e0,t0,ys,ds,rfl,q1,q2,q3⟩,_⟩:=r1 j _ hl2
   have hbl:=q3 b hb2
   rw [hρ,Ff id jy,hfid]at hb1
   rcases w8.1 hb1 with hb1 | hb1
   ·exact h4 b hb1 (hfpl b hbl)
   ·exact hout b hbl hb1
  rcases hlk i x1 hl1 with⟨rfl,rfl⟩ | ⟨Oc,hl1'⟩
  ·rcases hlk j x2 hl2 with⟨rfl,rfl⟩ | ⟨Oc,hl2'⟩
   ·rfl
   ·exact(aS j x2 hl2' hb2 hb1).elim
  ·rcases hlk j x2 hl2 with⟨rfl,rfl⟩ | ⟨Oc,hl2'⟩
   ·exact(aS i x1 hl1' hb1 hb2).elim
   ·obtain⟨⟨_,_,_,_,rfl,_⟩,_⟩:=r1 i _ hl1'
    obtain⟨⟨_,_,_,_,rfl,_⟩,_⟩:=r1 j _ hl2'
    exact d1 i j _ _ b hl1' hl2' hb1 hb2
 ·show (bif Nat.beq i id then _ else ρ.fp i)=ρ.fp i
  cases hq:Nat.beq i id with
  |false=>rfl
  |true=>
   have:=q8 hq;subst this
   rw [look?_same]at hl';cases hl'
theorem Hp.treeAppend(h:Hp B ρ ent used w){id jd nid:Nat}{e e2:TypeId}{t:CTy}{xs ys:List (E t)}(he:ent id=some (.tree e t xs none))(he2:ent jd=some (.tree e2 t ys none))(Oc:id≠jd)(OE:used nid=false)
  {w':World} {v':Value} {cs ds:List Value} (hg:Chg w w' (fun k=>k∈fB (ρ id))) (Jr:CC w e t.size (ρ id) xs.length cs) (hds:CC w e2 t.size (ρ jd) ys.length ds) (pT:CC w' e t.size v' (xs++ys).length (cs++ds)) (hb: ∀ b∈fB v',w.heap.size≤b∨b∈fB (ρ id)):
  ∃ ρ':Nm,ρ' nid=v'∧Ext B used ρ ρ'∧Hp B ρ' (aZ ent ((nid,.tree e t (xs++ys) none)::NE [id,jd])) (bk used [nid]) w':=by
 obtain⟨⟨cs1,Ls,p1,p2,p3,p4,p5⟩,jy,_⟩:=h.he _ _ he
 obtain⟨⟨ds1,Ms,q1,q2,q3,q4,q5⟩,hjd,_⟩:=h.he _ _ he2
 obtain rfl:cs1=cs:=aap p1 Jr
 obtain rfl:ds1=ds:=aap q1 hds
 have hi: ∀ b,b∈fB (ρ id)++ρ.fp id→b∈fB (ρ jd)++ρ.fp jd→False:=fun b h1 h2=>Oc (h.hi _ _ _ _ b he he2 h1 h2)
 have Ff: ∀ i,used i=true→upd ρ nid v' i=ρ i:=Ew OE ρ v'
 let ρ':Nm:=⟨(upd ρ nid v').nm,ρ.mem,fun i=>bif Nat.beq i nid then qo (Ls++Ms)else ρ.fp i⟩
 have hv:ρ' nid=v':=fy ρ nid (sX pT)
 have Lg: ∀ b,b∈qo Ls∨b∈qo Ms→w'.heap[b]? =w.heap[b]? ∧b < w.heap.size∧b∉fB (ρ id):=by
  intro b hb'
  have gm:b < w.heap.size:=hb'.elim (p2.blk b) (q2.blk b)
  have hnb:b∉fB (ρ id):=fun hm=>hb'.elim (fun h1=>p4 b hm (by rw [p3];exact h1)) fun h1=>hi b (List.mem_append_left _ hm) (w6 _ (by rw [q3];exact h1))
  exact⟨hg.block b gm hnb,gm,hnb⟩
 have:=h.toTree (ρ':=ρ') (w':=w') (G:= [id,jd]) (id:=nid) (new:= [nid]) (e:=e) (t:=t) (xs:=xs++ys) (ho:=none) (cs:=cs1++ds1) (Ls:=Ls++Ms)
  hg Ff rfl (fun i hi'=> ?_) (fun g hg'=> ?_) (by simp [bk,memN]) trivial (fun k hk=>⟨id,.inr (by simp),_,he,List.mem_append_left _ hk⟩) (fun b hb'=> ?_) (by rw [hv];exact pT)
  ((p2.keep (ρ':=ρ') (fun b hb'=>(Lg b (.inl hb')).1) (fun _ _ h=>by cases h)).append (q2.keep (fun b hb'=>(Lg b (.inr hb')).1) (fun _ _ h=>by cases h)) p1.1 fun b h1 h2=>hi b (w6 _ (by rw [p3];exact h1)) (w6 _ (by rw [q3];exact h2)))
  (by show (bif Nat.beq nid nid then _ else _)=_;simp) (fun b h1 h2=> ?_)
 ·exact⟨ρ',hv,this.1,this.2⟩
 ·show (bif Nat.beq i nid then _ else ρ.fp i)=ρ.fp i
  cases hq:Nat.beq i nid with
  |false=>rfl
  |true=>exact(hi' (q8 hq)).elim
 ·simp only [List.mem_cons,List.not_mem_nil,or_false]at hg'
  rcases hg' with rfl | rfl
  ·exact jy
  ·exact hjd
 ·rw [hv]at hb'
  rcases w8.1 hb' with h1 | h1
  ·rcases hb b h1 with h2 | h2
   ·exact .inl h2
   ·exact .inr ⟨id,.inr (by simp),_,he,List.mem_append_left _ h2⟩
  ·rw [Tb]at h1
   rcases w8.1 h1 with h1 | h1
   ·exact .inr ⟨id,.inr (by simp),_,he,w6 _ (by rw [p3];exact h1)⟩
   ·exact .inr ⟨jd,.inr (by simp),_,he2,w6 _ (by rw [q3];exact h1)⟩
 ·rw [hv]at h1
  rw [Tb]at h2
  obtain⟨_,k2,k3⟩:=Lg b (w8.1 h2)
  rcases hb b h1 with h3 | h3
  ·omega
  ·exact k3 h3
theorem Hp.treeName(h:Hp B ρ ent used w){id nid:Nat}{e:TypeId}{t:CTy}{xs:List (E t)}(he:ent id=some (.tree e t xs none))(OE:used nid=false):
  ∃ ρ':Nm,ρ' nid=ρ id∧ρ' id=ρ id∧Ext B used ρ ρ'∧Hp B ρ' (aZ ent ((nid,.tree e t xs none)::NE [id])) (bk used [nid]) w:=by
 obtain⟨⟨cs,Ls,p1,p2,p3,p4,p5⟩,jy,_⟩:=h.he _ _ he
 have Ff: ∀ i,used i=true→upd ρ nid (ρ id) i=ρ i:=Ew OE ρ (ρ id)
 let ρ':Nm:=⟨(upd ρ nid (ρ id)).nm,ρ.mem,fun i=>bif Nat.beq i nid then qo Ls else ρ.fp i⟩
 have hv:ρ' nid=ρ id:=fy ρ nid (HY _)
 have:=h.toTree (ρ':=ρ') (w':=w) (X:=fun _=>False) (G:= [id]) (id:=nid) (new:= [nid]) (e:=e) (t:=t) (xs:=xs) (ho:=none) (cs:=cs) (Ls:=Ls)
  (Chg.refl w _) Ff rfl (fun i hi'=> ?_) (fun g hg'=> ?_) (by simp [bk,memN]) trivial (fun k hk=>hk.elim) (fun b hb'=> ?_) (by rw [hv];exact p1)
  (p2.keep (fun _ _=>rfl) (fun _ _ h=>by cases h)) (by show (bif Nat.beq nid nid then _ else _)=_;simp) (fun b h1 h2=> ?_)
 ·exact⟨ρ',hv,Ff id jy,this.1,this.2⟩
 ·show (bif Nat.beq i nid then _ else ρ.fp i)=ρ.fp i
  cases hq:Nat.beq i nid with
  |false=>rfl
  |true=>exact(hi' (q8 hq)).elim
 ·simp only [List.mem_cons,List.not_mem_nil,or_false]at hg'
  subst hg';exact jy
 ·rw [hv]at hb'
  exact .inr ⟨id,.inr (by simp),_,he,by simp only [Entry.ob,p3];exact hb'⟩
 ·rw [hv]at h1
  exact p4 b h1 (by rw [p3];exact h2)
theorem Hp.treeFreeze(h:Hp B ρ ent used w){id:Nat}{e:TypeId}{t:CTy}{xs:List (E t)}(he:ent id=some (.tree e t xs none)):
  ∃ ρ':Nm,ρ'.nm=ρ.nm∧ρ'.fp=ρ.fp∧Ext B used ρ ρ'∧(∀ b,(∃ o,ρ'.mem b=some o)→(∃ o,ρ.mem b=some o)∨b∈(Entry.tree e t xs none).ob ρ id)∧(∀ b∈(Entry.tree e t xs none).ob ρ id,∃ o,ρ'.mem b=some o)∧Hp B ρ' (aZ ent [(id,.row false e t xs)]) used w:=by
 obtain⟨⟨cs,Ls,p1,p2,p3,p4,p5⟩,jy,_⟩:=h.he _ _ he
 have hob:(Entry.tree e t xs none).ob ρ id=fB (ρ id)++ρ.fp id:=rfl
 have Gu: ∀ b∈fB (ρ id)++ρ.fp id,Was ent ρ [(id,.row false e t xs)] b:=fun b hb=>⟨id,_,_,he,hb,look?_same _ _ _⟩
 have gm: ∀ b∈fB (ρ id)++ρ.fp id,b < w.heap.size:=fun b hb=>(Entry.ob_lt (h.he _ _ he).1 hb).1
 let ρ':Nm:=⟨ρ.nm,fun b=>if b∈fB (ρ id)++ρ.fp id then w.heap[b]? else ρ.mem b,ρ.fp⟩
 have hold: ∀ b o,ρ.mem b=some o→ρ'.mem b=some o:=by
  intro b o hb
  show (if b∈fB (ρ id)++ρ.fp id then w.heap[b]? else ρ.mem b)=some o
  split
  ·exact h.hf.dat b o hb
  ·exact hb
 have BV: ∀ b∈fB (ρ id)++ρ.fp id,ρ'.mem b=w.heap[b]? :=fun b hb=>by
  show (if b∈fB (ρ id)++ρ.fp id then w.heap[b]? else ρ.mem b)=_
  rw [if_pos hb]
 have drep: ∀ (t:CTy) (cs:List Value) (x:E t) (L:List Nat),qr w t cs x L→(∀ b∈L,b∈fB (ρ id)++ρ.fp id)→Rep ρ'.mem t cs x:=by
  intro t
  induction t with
  |int k=>intro cs x L hd _;simp only [qr]at hd;simp only [Rep];exact hd.1
  |bool=>intro cs x L hd _;simp only [qr]at hd;simp only [Rep];exact hd.1
  |str=>intro cs x L hd _;simp only [qr]at hd;simp only [Rep];exact hd.1
  |fn=>intro cs x L hd _;simp only [qr]at hd;simp only [Rep];exact hd.1
  |pair a b iha ihb=>
   intro cs x L hd hL
   simp only [qr]at hd
   obtain⟨c1,c2,L1,L2,e1,rfl,h1,h2,_⟩:=hd
   simp only [Rep]
   exact⟨c1,c2,e1,iha _ _ _ h1 fun b hb=>hL b (List.mem_append_left _ hb),ihb _ _ _ h2 fun b hb=>hL b (w6 _ hb)⟩
  |sl e' t' _=>
   intro cs xs L hd hL
   simp only [qr]at hd
   obtain⟨v,ds,rfl,rfl,hf,ho,hr⟩:=hd
   simp only [Rep]
   refine⟨v,rfl,?_⟩
   rcases ho.2 with⟨hz,hn0⟩ | ⟨g,cap,cur,hv,h0,hg,Gt,TZ,FG,Ub⟩
   ·exact .inl ⟨hz,List.length_eq_zero_iff.1 hn0⟩
   ·refine .inr ⟨g,0,cap,cur,e',(0,0),hv,Gt,TZ,?_,fun j x hx=> ?_⟩
    ·rw [BV g (hL g (by rw [hv,sn h0];simp))];exact hg
    ·have:=Rep.mono (H':=ρ'.mem) (fun _ _ h=>by cases h) _ _ _ (hr.2 j x hx)
     rw [← Ub]at this
     have gm:=tO (z:=t'.size) (z6.1 hx).1
     rw [List.drop_take,List.take_take]at this
     rw [Nat.zero_add]
     rwa [Nat.min_eq_left (by omega)]at this
 have key:=h.chg (ρ':=ρ') (es:= [(id,.row false e t xs)]) (new:= []) (Chg.refl w (fun _=>False)) (fun _ _=>rfl) hold (fun _ hx=>hx.elim) (fun b o hb=> ?_) (fun i x hl=> ?_) (fun i x b hl hb'=> ?_) (fun i i' x x' b hl hl' hb1 hb2=> ?_)
 ·refine⟨ρ',rfl,rfl,key.1,fun b ⟨o,hb⟩=> ?_,fun b hb=> ?_,key.2⟩
  ·have hb:(if b∈fB (ρ id)++ρ.fp id then w.heap[b]? else ρ.mem b)=some o:=hb
   split at hb
   ·rename_i hm;exact .inr hm
   ·exact .inl ⟨o,hb⟩
  ·rw [BV b hb];exact⟨_,Array.getElem?_eq_getElem (gm b hb)⟩
 ·have hb:(if b∈fB (ρ id)++ρ.fp id then w.heap[b]? else ρ.mem b)=some o:=hb
  split at hb
  ·rename_i hm;exact .inr ⟨hb,Entry.ob_unf (h.he _ _ he).1 hm hb (fun _ h=>by cases h),.inr (Gu b hm)⟩
  ·exact .inl hb
 ·obtain⟨rfl,rfl⟩:=look?_one hl
  refine⟨?_,jy,trivial⟩
  show GO ρ'.mem t (ρ i) xs
  rcases p1.2 with⟨hv,hn0⟩ | ⟨g,cap,cur,hv,h0,hg,Gt,TZ,FG,Ub⟩
  ·exact .inl ⟨hv,List.length_eq_zero_iff.1 hn0⟩
  ·refine .inr ⟨g,0,cap,cur,e,(0,0),hv,Gt,TZ,?_,fun j x hx=> ?_⟩
   ·rw [BV g (List.mem_append_left _ (by rw [hv,sn h0];simp))];exact hg
   ·have hj:j < xs.length:=(z6.1 hx).1
    obtain⟨l,hll⟩: ∃ l,Ls[j]? =some l:=⟨_,List.getElem?_eq_getElem (by rw [p2.1];exact hj)⟩
    have:=drep _ _ _ _ (p2.2.2.1 j x l (fun _ _ h=>by cases h) hx hll) (fun b hb=>w6 _ (by rw [p3];exact nS.2 ⟨j,l,hll,hb⟩))
    rw [← Ub]at this
    have gm:=tO (z:=t.size) hj
    rw [List.drop_take,List.take_take]at this
    rw [Nat.zero_add]
    rwa [Nat.min_eq_left (by omega)]at this
 ·obtain⟨rfl,rfl⟩:=look?_one hl
  cases hb'
 ·exact(look?_one hl).1.trans (look?_one hl').1.symm
theorem Hp.treeClose(h:Hp B ρ ent used w){id:Nat}{e:TypeId}{t:CTy}{xs:List (E t)}{k:Nat}{hc:List Cell}(he:ent id=some (.tree e t xs (some (k,hc)))){y:E t}{ids:List Nat}(Rt:AN ent t hc=some (y,ids))(hd:ids.Nodup):
  ∃ ρ':Nm,Ext B used ρ ρ'∧Hp B ρ' (aZ ent ((id,.tree e t (xs.set k y) none)::NE ids)) used w:=by
 obtain⟨⟨cs,Ls,h1,⟨t1,t2,t3,t4⟩,h3,h4,h5⟩,jy,_⟩:=h.he _ _ he
 obtain⟨hk,hLk,hch⟩:=t2 k hc rfl
 obtain⟨L,d1,d2,d3⟩:=Lz h t hc y ids Rt hd
 have hidn:id∉ids:=by
  intro hm
  obtain⟨_,_,_,hr⟩:=QB Rt id hm
  rw [he]at hr;cases hr
 have hsep: ∀ b∈L,b∉fB (ρ id)++ρ.fp id:=by
  intro b hb hb2
  obtain⟨i,hi,e0,he0,hb0⟩:=d2 b hb
  have:=h.hi _ _ _ _ b he0 he hb0 hb2
  subst this;exact hidn hi
 let ρ':Nm:=⟨ρ.nm,ρ.mem,fun i=>bif Nat.beq i id then qo (Ls.set k L)else ρ.fp i⟩
 have hcon: ∀ c:Cell,c.conc ρ'=c.conc ρ:=fun c=>Cell.conc_congr (U:=fun _=>true) (fun _ _=>rfl) (by cases c <;> simp [Cell.inU])
 have Bp: ∀ b,b∈qo (Ls.set k L)→b∈L∨b∈qo Ls:=by
  intro b hb
  obtain⟨j,l',hj,hb'⟩:=nS.1 hb
  rcases So hj with⟨_,rfl⟩ | ⟨_,hj⟩
  ·exact .inl hb'
  ·exact .inr (nS.2 ⟨j,l',hj,hb'⟩)
 have hgl: ∀ (a:Nat) l1,(Ls.set k L)[a]? =some l1→(a=k∧l1=L)∨(a≠k∧Ls[a]? =some l1):=by
  exact fun a l1 ha=>So ha
 have:=h.toTree (ρ':=ρ') (w':=w) (X:=fun _=>False) (G:=ids) (id:=id) (new:= []) (e:=e) (t:=t) (xs:=xs.set k y) (ho:=none) (cs:=cs) (Ls:=Ls.set k L)
  (Chg.refl w _) (fun _ _=>rfl) rfl (fun i hi=> ?_) (fun g hg=> ?_) jy trivial (fun _ hx=>hx.elim) (fun b hb=> ?_) (by rw [j8];exact h1) ⟨by simp [t1],fun j hc' hj=>(by cases hj),fun j y' l' _ hy hl2=> ?_,fun a b l1 l2 q ha hb hq1 hq2=> ?_⟩
  (by show (bif Nat.beq id id then _ else _)=_;simp) (fun b hb hb2=> ?_)
 ·exact⟨ρ',this.1,this.2⟩
 ·show (bif Nat.beq i id then _ else ρ.fp i)=ρ.fp i
  cases hq:Nat.beq i id with
  |false=>rfl
  |true=>exact(hi (q8 hq)).elim
 ·obtain⟨e0,he0⟩:=d3 g hg
  exact(h.he g e0 he0).2.1
 ·right
  rcases w8.1 hb with hb | hb
  ·exact⟨id,.inl rfl,_,he,List.mem_append_left _ hb⟩
  ·rcases Bp b hb with hb | hb
   ·obtain⟨i,hi,e0,he0,hb0⟩:=d2 b hb
    exact⟨i,.inr hi,e0,he0,hb0⟩
   ·exact⟨id,.inl rfl,_,he,w6 _ (by rw [h3];exact hb)⟩
 ·rcases hgl j l' hl2 with⟨rfl,rfl⟩ | ⟨Oc,hl3⟩
  ·rw [List.getElem?_set_self hk]at hy;cases hy
   rw [hch];exact d1
  ·rw [List.getElem?_set_ne (fun h=>Oc h.symm)]at hy
   exact t3 j y' l' (fun a b hab=>by cases hab;exact Oc) hy hl3
 ·rcases hgl a l1 ha with⟨rfl,rfl⟩ | ⟨Oc,ha'⟩
  ·rcases hgl b l2 hb with⟨rfl,rfl⟩ | ⟨hne2,hb'⟩
   ·rfl
   ·exact(hsep q hq1 (w6 _ (by rw [h3];exact nS.2 ⟨b,l2,hb',hq2⟩))).elim
  ·rcases hgl b l2 hb with⟨rfl,rfl⟩ | ⟨hne2,hb'⟩
   ·exact(hsep q hq2 (w6 _ (by rw [h3];exact nS.2 ⟨a,l1,ha',hq1⟩))).elim
   ·exact t4 a b l1 l2 q ha' hb' hq1 hq2
 ·rcases Bp b hb2 with hb2 | hb2
  ·exact hsep b hb2 (List.mem_append_left _ hb)
  ·exact h4 b hb (by rw [h3];exact hb2)
def FF(ent:Nat→Option Entry):List Nat→List (Nat×Entry)
 | []=> []
 |id::r=>match ent id with
  |some (.row true e t xs)=>(id,.row false e t xs)::FF ent r
  |some (.tree e t xs none)=>(id,.row false e t xs)::FF ent r
  |_=>FF ent r
theorem look?_frzA{ent:Nat→Option Entry}: ∀ {l:List Nat} {i:Nat} {e:Entry},look? (FF ent l) i=some e→i∈l∧ ∃ e0 t xs,(ent i=some (.row true e0 t xs)∨ent i=some (.tree e0 t xs none))∧e= .row false e0 t xs
 | [],i,e,h=>by simp [FF,look?]at h
 |id::r,i,e,h=>by
  have key: ∀ (e1:TypeId) (t:CTy) (xs:List (E t)),(ent id=some (.row true e1 t xs)∨ent id=some (.tree e1 t xs none))→look? ((id,.row false e1 t xs)::FF ent r) i=some e→
    i∈id::r∧ ∃ e0 t xs,(ent i=some (.row true e0 t xs)∨ent i=some (.tree e0 t xs none))∧e= .row false e0 t xs:=by
   intro e1 t xs he h
   simp only [look?]at h
   cases hb:Nat.beq id i with
   |true=>
    have:=q8 hb;subst this
    simp at h;exact⟨by simp,e1,t,xs,he,h.symm⟩
   |false=>
    simp only [hb,cond_false]at h
    obtain⟨h1,h2⟩:=look?_frzA h
    exact⟨List.mem_cons_of_mem _ h1,h2⟩
  simp only [FF]at h
  split at h
  ·rename_i e1 t xs he;exact key e1 t xs (.inl he) h
  ·rename_i e1 t xs he;exact key e1 t xs (.inr he) h
  ·obtain⟨h1,h2⟩:=look?_frzA h
   exact⟨List.mem_cons_of_mem _ h1,h2⟩
theorem look?_frzA_mem{ent:Nat→Option Entry}: ∀ {l:List Nat} {i:Nat} {e0:TypeId} {t:CTy} {xs:List (E t)},i∈l→(ent i=some (.row true e0 t xs)∨ent i=some (.tree e0 t xs none))→look? (FF ent l) i=some (.row false e0 t xs)
 | [],i,_,_,_,h,_=>by cases h
 |id::r,i,e0,t,xs,h,he=>by
  have key: ∀ (e1:TypeId) (t1:CTy) (xs1:List (E t1)),(ent id=some (.row true e1 t1 xs1)∨ent id=some (.tree e1 t1 xs1 none))→look? ((id,.row false e1 t1 xs1)::FF ent r) i=some (.row false e0 t xs):=by
   intro e1 t1 xs1 he1
   simp only [look?]
   cases hb:Nat.beq id i with
   |true=>
    have:=q8 hb;subst this
    rcases he with he | he <;> rcases he1 with he1 | he1 <;> rw [he]at he1 <;> cases he1 <;> rfl
   |false=>
    rcases List.mem_cons.1 h with rfl | h
    ·rw [show Nat.beq i i=true from Nat.beq_refl i]at hb;cases hb
    ·exact look?_frzA_mem h he
  simp only [FF]
  split
  ·rename_i e1 t1 xs1 he1;exact key e1 t1 xs1 (.inl he1)
  ·rename_i e1 t1 xs1 he1;exact key e1 t1 xs1 (.inr he1)
  ·rename_i h1 h2
   rcases List.mem_cons.1 h with rfl | h
   ·rcases he with he | he
    ·exact(h1 _ _ _ he).elim
    ·exact(h2 _ _ _ he).elim
   ·exact look?_frzA_mem h he
theorem Hp.freezeA(h:Hp B ρ ent used w): ∀ (l:List Nat),∃ ρ':Nm,ρ'.nm=ρ.nm∧ρ'.fp=ρ.fp∧Ext B used ρ ρ'∧Hp B ρ' (aZ ent (FF ent l)) used w∧
  ∀ i∈l,∀ e,ent i=some e→((∃ e0 t xs,e= .row true e0 t xs)∨ ∃ e0 t xs,e= .tree e0 t xs none)→ ∀ b∈e.ob ρ i,∃ o,ρ'.mem b=some o
 | []=>⟨ρ,rfl,rfl,Ext.refl _ _ _,h,fun i hi=>by cases hi⟩
 |id::r=>by
  obtain⟨ρ1,n1,f1,x1,h1,m1⟩:=Hp.freezeA h r
  have Ff: ∀ i,ρ1 i=ρ i:=fun i=>by simp only [Nm.of,n1]
  have hobs: ∀ (e:Entry) i,e.ob ρ1 i=e.ob ρ i:=fun e i=>by
   cases e with
   |row own _ _ _=>cases own <;> simp only [Entry.ob,Ff]
   |_=>simp only [Entry.ob,Ff,f1]
  have hdone: ∀ e1,look? (FF ent r) id=some e1→FF ent (id::r)=(id,e1)::FF ent r∧id∈r:=by
   intro e1 hl
   obtain⟨hm,e0,t,xs,he,rfl⟩:=look?_frzA hl
   refine⟨?_,hm⟩
   simp only [FF]
   rcases he with he | he <;> rw [he]
  cases hl:look? (FF ent r) id with
  |some e1=>
   obtain⟨q1,q2⟩:=hdone e1 hl
   refine⟨ρ1,n1,f1,x1,?_,fun i hi=>m1 i ?_⟩
   ·rw [q1,show aZ ent ((id,e1)::FF ent r)=aZ ent (FF ent r) from funext fun i=>by
     simp only [aZ,look?]
     cases hb:Nat.beq id i with
     |true=>have:=q8 hb;subst this;simp [hl]
     |false=>rfl]
    exact h1
   ·rcases List.mem_cons.1 hi with rfl | hi
    ·exact q2
    ·exact hi
  |none=>
   have fin: ∀ (e:TypeId) (t:CTy) (xs:List (E t)) (ρ2:Nm) (e1:Entry),ent id=some e1→aZ ent (FF ent r) id=some e1→ρ2.nm=ρ1.nm→ρ2.fp=ρ1.fp→Ext B used ρ1 ρ2→(∀ b∈e1.ob ρ1 id,∃ o,ρ2.mem b=some o)→Hp B ρ2 (aZ (aZ ent (FF ent r)) [(id,.row false e t xs)]) used w→
     ∃ ρ':Nm,ρ'.nm=ρ.nm∧ρ'.fp=ρ.fp∧Ext B used ρ ρ'∧Hp B ρ' (aZ ent ((id,.row false e t xs)::FF ent r)) used w∧
      ∀ i∈id::r,∀ e,ent i=some e→((∃ e0 t xs,e= .row true e0 t xs)∨ ∃ e0 t xs,e= .tree e0 t xs none)→ ∀ b∈e.ob ρ i,∃ o,ρ'.mem b=some o:=by
    intro e t xs ρ2 e1 he1 _ n2 f2 x2 m2 h2
    rw [yP]at h2
    refine⟨ρ2,n2.trans n1,f2.trans f1,x1.trans x2 fun _ h=>h,h2,fun i hi e' he' ho b hb=> ?_⟩
    by_cases hir:i∈r
    ·obtain⟨o,ho⟩:=m1 i hir e' he' ho b hb
     exact⟨o,x2.old b o ho⟩
    ·rcases List.mem_cons.1 hi with rfl | hi
     ·rw [he1]at he';cases he'
      exact m2 b (by rw [hobs];exact hb)
     ·exact(hir hi).elim
   simp only [FF]
   split
   ·rename_i e t xs he
    have he':aZ ent (FF ent r) id=some (.row true e t xs):=by simp only [aZ,hl];exact he
    obtain⟨ρ2,n2,f2,m2,x2,h2⟩:=h1.freeze' he'
    exact fin e t xs ρ2 _ he he' n2 f2 x2 m2 h2
   ·rename_i e t xs he
    have he':aZ ent (FF ent r) id=some (.tree e t xs none):=by simp only [aZ,hl];exact he
    obtain⟨ρ2,n2,f2,x2,_,m2,h2⟩:=h1.treeFreeze he'
    exact fin e t xs ρ2 _ he he' n2 f2 x2 m2 h2
   ·rename_i hn1 hn2
    refine⟨ρ1,n1,f1,x1,h1,fun i hi e he ho=> ?_⟩
    rcases List.mem_cons.1 hi with rfl | hi
    ·rcases ho with⟨_,_,_,rfl⟩ | ⟨_,_,_,rfl⟩
     ·exact(hn1 _ _ _ he).elim
     ·exact(hn2 _ _ _ he).elim
    ·exact m1 i hi e he ho
end
end Go.SX
namespace Go.SX
open Go.RowKit
def agp:List (Option CTy)→Option CTy
 | []=>none
 | [t]=>t
 |some t::r=>match agp r with
  |some u=>some (.pair t u)
  |none=>none
 |none::_=>none
def abU(P:Program):Nat→TypeId→Option CTy
 |0,_=>none
 |f + 1,T=>match P.underlying T with
  |some (.int k)=>some (.int k)
  |some .bool=>some .bool
  |some .string=>some .str
  |some (.slice e)=>(abU P f e).map (.sl e)
  |some (.struct fs)=>agp (fs.toList.map fun fd=>abU P f fd.type)
  |some (.array n e)=>agp (z7 n (abU P f e))
  |some (.func _ _ _)=>some .fn
  |_=>none
def ro{α:Type}:List (List α)→List α
 | []=> []
 |a::r=>a++ro r
def Mb(P:Program):Nat→TypeId→List (Option (TypeId×CTy))
 |0,_=> [none]
 |f + 1,T=>match P.underlying T with
  |some (.slice e)=> [(abU P f e).map fun t=>(e,t)]
  |some (.struct fs)=>ro (fs.toList.map fun fd=>Mb P f fd.type)
  |some (.array n e)=>ro (z7 n (Mb P f e))
  |_=> [none]
def Sd:Cell→Bool
 | .val (.slice none 0 0)=>true
 |_=>false
def Vy:List (Option (TypeId×CTy))→List Cell→Nat→List Cell
 |some _::ts,c::cs,n=>bif Sd c then .ref n::Vy ts cs (n + 1)else c::Vy ts cs n
 |none::ts,c::cs,n=>c::Vy ts cs n
 |_,cs,_=>cs
def acq(tr:Bool)(e:TypeId)(t:CTy):Entry:=
 match tr,t.flat with
 |true,false=> .tree e t [] none
 |_,_=> .row true e t []
def RD(tr:Bool):List (Option (TypeId×CTy))→List Cell→Nat→List (Nat×Entry)
 |some (e,t)::ts,c::cs,n=>bif Sd c then(n,acq tr e t)::RD tr ts cs (n + 1)else RD tr ts cs n
 |none::ts,_::cs,n=>RD tr ts cs n
 |_,_,_=> []
structure Fix where
 v:V1
 es:List (Nat×Entry)
def FE(P:Program)(tr:Bool)(T:TypeId)(n:Nat)(v:V1):Fix:=
 match v.cs.any Sd with
 |true=>⟨⟨v.agg,Vy (Mb P 12 T) v.cs n⟩,RD tr (Mb P 12 T) v.cs n⟩
 |false=>⟨v,[]⟩
def sG{α:Type}(l:List (Nat×α)):List Nat:=l.map (·.1)
def V1.cells?(v:V1):Option (List Cell):=
 match v.agg,v.cs with
 |true,cs=>some cs
 |false,[.val (.agg _)]=>none
 |false,[c]=>some [c]
 |false,_=>none
def Cell.one:Cell→Bool
 | .val v=>v.oneCell'
 |_=>true
def aiz:TypeDesc→Bool
 | .struct _ | .array _ _=>true
 |_=>false
def Vn(P:Program)(T:TypeId)(off:Nat)(cs:List Cell):Option V1:=
 match P.underlying T,P.info? T with
 |some d,some i=>
  match aiz d with
  |true=>bif Nat.ble (off + i.size) cs.length then some ⟨true,(cs.drop off).take i.size⟩else none
  |false=>match cs[off]? with
   |some c=>some ⟨false,[c]⟩
   |none=>none
 |_,_=>none
def AD(P:Program)(T:TypeId)(off n:Nat)(ns:List Cell):Bool:=
 match P.info? T with
 |some i=>Nat.beq ns.length i.size&&Nat.ble (off + ns.length) n&&ns.all Cell.one
 |none=>false
def abX(P:Program)(T:TypeId)(f:Nat):Option Nat:=
 match P.underlying T with
 |some (.struct fs)=>match fs[f]? with
  |some fd=>match P.info? fd.type with
   |some i=>bif Nat.beq i.size 0 then none else some fd.offset
   |none=>none
  |none=>none
 |_=>none
def YZ(ZA:Nat→Option (Nat×Nat))(cells:List Cell):List (Nat×V1)→Option (List Cell)
 | []=>some cells
 |(i,v)::rest=>match ZA i,v.cells? with
  |some (off,size),some ns=>bif Nat.beq ns.length size&&Nat.ble (off + ns.length) cells.length then YZ ZA (cells.take off++ns++cells.drop (off + ns.length)) rest else none
  |_,_=>none
def ZA(P:Program)(fs:Array Field)(i:Nat):Option (Nat×Nat):=
 match fs[i]? with
 |some fd=>match P.info? fd.type with
  |some j=>some (fd.offset,j.size)
  |none=>none
 |none=>none
def Raw.ofV(v:SV):Raw:=⟨v,[],[],[]⟩
def one(c:Cell):SV:= .one ⟨false,[c]⟩
def Yy:SV:= .ofValue undef
def vof(look:Nat→Option SS)(A:List (Nat×Bool))(x:Operand):Value:=
 match ev look A x with
 |some v=>match v.toValue? with
  |some u=>u
  |none=>undef
 |none=>undef
def vok(look:Nat→Option SS)(A:List (Nat×Bool))(x:Operand):Bool:=
 match ev look A x with
 |some v=>v.toValue?.isSome
 |none=>false
def Gi:Op→List Operand
 | .call c=>(match c.callee with | .value f=> [f] | .invoke r _=> [r] | .builtin _=> [])++c.args.toList
 |op=>op.operands.toList
theorem ahJ{op:Op}{x:Operand}(h:x∈op.operands):x∈Gi op:=by
 cases op with
 |call c=>
  simp only [Op.operands,Call.operands]at h
  simp only [Gi]
  cases hc:c.callee <;> simp [hc]at h ⊢ <;> exact h
 |_=>simpa [Gi] using h
def DX(P:Program)(look:Nat→Option SS)(A:List (Nat×Bool))(o:Oper):Option Raw:=
 bif(Gi o.op).all (vok look A)then
  match QO P (execOp (vof look A) o)with
  |some (.value v)=>some (.ofV (.ofValue v))
  |_=>none
 else none
def evC(look:Nat→Option SS)(A:List (Nat×Bool))(x:Operand):Option Cell:=
 match ev look A x with
 |some (.one ⟨false,[c]⟩)=>some c
 |_=>none
def evI(look:Nat→Option SS)(A:List (Nat×Bool))(x:Operand):Option Int:=
 match evC look A x with
 |some (.val (.int _ i))=>some i
 |_=>none
def ev1(look:Nat→Option SS)(A:List (Nat×Bool))(x:Operand):Option V1:=
 match ev look A x with
 |some (.one v)=>some v
 |_=>none
def evs(look:Nat→Option SS)(A:List (Nat×Bool)):List Operand→Option (List SV)
 | []=>some []
 |x::r=>match ev look A x,evs look A r with
  |some v,some vs=>some (v::vs)
  |_,_=>none
def ahy(look:Nat→Option SS)(A:List (Nat×Bool)):List (Nat×Operand)→Option (List (Nat×V1))
 | []=>some []
 |(i,x)::r=>match ev1 look A x,ahy look A r with
  |some v,some vs=>some ((i,v)::vs)
  |_,_=>none
def yO(P:Program)(T:TypeId)(t:CTy):Bool:=
 match P.underlying T with
 |some (.slice e)=>match P.info? e with
  |some i=>Nat.beq i.size t.size
  |none=>false
 |_=>false
section
variable(P:Program)(tbl:List (PF P))(tr:Bool)(look:Nat→Option SS)(ent:Nat→Option Entry)(A:List (Nat×Bool))(nid:Nat)
def ahd(T:TypeId)(x:Operand):Option Raw:=
 match ev look A x with
 |some (.one v)=>let f:=FE P tr T nid v;some ⟨.one f.v,f.es,sG f.es,[]⟩
 |some v=>some (.ofV v)
 |none=>none
def aiU(c x y:Operand):Option Raw:=
 match c,evC look A c with
 | .tmp jc,some (.val (.bool cb))=>match ev look ((jc,true)::A) x,ev look ((jc,false)::A) y with
  |some vx,some vy=>(Gg cb vx vy).map Raw.ofV
  |_,_=>none
 |_,_=>none
def afL(T:TypeId):Option Raw:=
 match P.info? T with
 |some i=>match i.zero with
  |some z=>let f:=FE P tr T (nid + 1) ⟨true,z.cells.toList.map .val⟩;some ⟨one (.ptr nid 0),(nid,.box T f.v.cs)::f.es,nid::sG f.es,[]⟩
  |none=>none
 |none=>none
def akj(T:TypeId)(x:Operand):Option Raw:=
 match ev1 look A x with
 |some v=>match v.cells? with
  |some cs=>let f:=FE P tr T (nid + 1) ⟨true,cs⟩;some ⟨one (.ptr nid 0),(nid,.box T f.v.cs)::f.es,nid::sG f.es,[]⟩
  |none=>none
 |none=>none
def aiK(T:TypeId)(x:Operand):Option Raw:=
 match evC look A x with
 |some (.ptr id off)=>match ent id with
  |some (.box _ cs)=>match Vn P T off cs with
   |some v=>some (.ofV (.one v))
   |none=>none
  |_=>none
 |some (.el id z i off)=>match ent id with
  |some (.row _ _ t xs)=>bif Nat.beq z t.size then
    match Vn P T off (sR t (xs[i]?.getD (sW t)) nid)with
    |some v=>some ⟨.one v,Hl t (xs[i]?.getD (sW t)) nid,aK nid t.nsl,[decide (i < xs.length)]⟩
    |none=>none
   else none
  |some (.tree e t xs none)=>bif Nat.beq z t.size then
    match Vn P T off (sR t (xs[i]?.getD (sW t)) nid)with
    |some v=>match SQ v.cs with
     |some _=>some ⟨.one v,[],[],[decide (i < xs.length)]⟩
     |none=>some ⟨.one v,(id,.tree e t xs (some (i,sR t (xs[i]?.getD (sW t)) nid)))::AL t (xs[i]?.getD (sW t)) nid,aK nid t.nsl,[decide (i < xs.length)]⟩
    |none=>none
   else none
  |_=>none
 |_=>none
def agI(T:TypeId)(x y:Operand):Option Raw:=
 match evC look A x,ev1 look A y with
 |some (.ptr id off),some v=>match ent id,v.cells? with
  |some (.box U cs),some ns=>bif AD P T off cs.length ns then some ⟨Yy,[(id,.box U (cs.take off++ns++cs.drop (off + ns.length)))],[],[]⟩else none
  |_,_=>none
 |some (.el id z i off),some v=>match ent id,v.cells? with
  |some (.row true e t xs),some ns=>bif Nat.beq z t.size&&AD P T off t.size ns&&(t.flat||Nat.beq off 0&&Nat.beq ns.length t.size)then
    let old:=sR t (xs[i]?.getD (sW t)) nid
    match AM ent t (old.take off++ns++old.drop (off + ns.length))with
    |some (y,l)=>bif memN l id then none else some ⟨Yy,(id,.row true e t (xs.set i y))::frz ent l,[],[decide (i < xs.length)]⟩
    |none=>none
   else none
  |some (.wk e t xs),some ns=>bif Nat.beq z t.size&&AD P T off t.size ns then
    let old:=sR t (xs[i]?.getD (sW t)) nid
    match AM ent t (old.take off++ns++old.drop (off + ns.length))with
    |some (y,[])=>some ⟨Yy,[(id,.wk e t (xs.set i y))],[],[decide (i < xs.length)]⟩
    |_=>none
   else none
  |some (.tree e t xs none),some ns=>bif Nat.beq z t.size&&AD P T off t.size ns then
    some ⟨Yy,(id,.tree e t xs (some (i,(sR t (xs[i]?.getD (sW t)) nid).take off++ns++(sR t (xs[i]?.getD (sW t)) nid).drop (off + ns.length))))::AL t (xs[i]?.getD (sW t)) nid,aK nid t.nsl,[decide (i < xs.length)]⟩
   else none
  |_,_=>none
 |_,_=>none
def Yh(T:TypeId)(x:Operand)(f:Nat):Option Raw:=
 match evC look A x,abX P T f with
 |some (.ptr id off),some d=>some (.ofV (one (.ptr id (off + d))))
 |some (.el id z i off),some d=>some (.ofV (one (.el id z i (off + d))))
 |_,_=>none
def af4(T:TypeId)(x:Operand)(f:Nat):Option Raw:=
 match ev1 look A x,P.underlying T with
 |some ⟨true,cs⟩,some (.struct fs)=>match fs[f]? with
  |some fd=>match Vn P fd.type fd.offset cs with
   |some v=>some (.ofV (.one v))
   |none=>none
  |none=>none
 |_,_=>none
def aal(x:Operand):Option Raw:=
 match evC look A x with
 |some (.val _)=>none
 |some (.ref _)=>none
 |some (.vw _ _ _)=>none
 |some c=>some (.ofV (one c))
 |none=>none
def Yl(T:TypeId)(x ix:Operand):Option Raw:=
 match evC look A x,evI look A ix with
 |some (.ref id),some i=>match ent id with
  |some (.row _ _ t xs)=>bif yO P T t then some ⟨one (.el id t.size i.toNat 0),[],[],[decide (0≤i),decide (i < xs.length)]⟩else none
  |some (.tree _ t xs none)=>bif yO P T t then some ⟨one (.el id t.size i.toNat 0),[],[],[decide (0≤i),decide (i < xs.length)]⟩else none
  |some (.wk _ t xs)=>bif yO P T t then some ⟨one (.el id t.size i.toNat 0),[],[],[decide (0≤i),decide (i < xs.length)]⟩else none
  |_=>none
 |some (.ptr id off),some i=>match P.underlying T with
  |some (.array n e)=>match P.info? e with
   |some inf=>some ⟨one (.ptr id (off + i.toNat * inf.size)),[],[],[decide (0≤i),decide (i < n)]⟩
   |none=>none
  |_=>none
 |_,_=>none
def agf(T:TypeId)(x ix:Operand):Option Raw:=
 match evC look A x,evI look A ix,P.underlying T with
 |some (.val (.string s)),some i,some .string=>some ⟨one (.val (.int .u8 (s[i.toNat]?.getD 0).toNat)),[],[],[decide (0≤i),decide (i < s.size)]⟩
 |_,_,_=>none
def bnd(x:Option Operand)(d:Int):Option Int:=
 match x with
 |none=>some d
 |some y=>evI look A y
def agF(fr:Bool)(T:TypeId)(x:Operand)(lo hi mx:Option Operand):Option Raw:=
 match mx,evC look A x with
 |none,some (.val (.string s))=>match bnd look A lo 0,bnd look A hi s.size,P.underlying T with
  |some l,some h,some .string=>some ⟨one (.val (.string (s.extract l.toNat h.toNat))),[],[],[decide (0≤l),decide (l≤h),decide (h≤s.size)]⟩
  |_,_,_=>none
 |none,some (.ref id)=>match ent id with
  |some (.row own e t xs)=>match bnd look A lo 0,bnd look A hi xs.length with
   |some l,some h=>bif yO P T t then
     match own,lo,fr with
     |true,none,false=>some ⟨one (.ref nid),[(nid,.row true e t (xs.take h.toNat)),(id,.gone)],[nid],[decide (0≤h),decide (h≤xs.length)]⟩
     |_,_,_=>some ⟨one (.ref nid),(nid,.row false e t ((xs.take h.toNat).drop l.toNat))::frz ent [id],[nid],[decide (0≤l),decide (l≤h),decide (h≤xs.length)]⟩
    else none
   |_,_=>none
  |_=>none
 |_,_=>none
def ahP:List SV→Option (List Nat)
 | []=>some []
 | .one ⟨false,[.ptr id 0]⟩::r=>(ahP r).map (id:: ·)
 |_::_=>none
def afQ:List Cell→Option (List (Nat×Option Value))
 | []=>some []
 | .ref id::r=>(afQ r).map ((id,none):: ·)
 | .val v::r=>(afQ r).map ((0,some v):: ·)
 |_::_=>none
def aah(fn:Fn)(first captured:Array Operand):Option Raw:=
 match fn,first.toList,evs look A captured.toList with
 | .func f,[x],some []=>match ev look A x with
  |some (.one ⟨true,cs⟩)=>match afQ cs with
   |some vs=>some (.ofV (one (.bnd f vs)))
   |none=>none
  |_=>none
 | .func f,[],some vs=>match vs with
  | []=>some (.ofV (one (.val (.func (.func f) #[] #[]))))
  |_=>match ahP vs with
   |some ids=>some (.ofV (one (.clo f ids)))
   |none=>none
 |_,_,_=>none
def Ym(T:TypeId)(l c:Operand):Option Raw:=
 match evI look A l,evI look A c,P.underlying T with
 |some n,some m,some (.slice e)=>match P.info? e,abU P 12 e with
  |some inf,some t=>match inf.zero with
   |some z=>match AM (fun _=>none) t (z.cells.toList.map .val)with
    |some (x0,_)=>bif Nat.beq inf.size t.size&&Nat.beq z.cells.size t.size then
      bif tr&& !t.flat then
       (match AN (fun _=>none) t (z.cells.toList.map .val)with
       |some (y0,_)=>some ⟨one (.ref nid),[(nid,.tree e t (z7 n.toNat y0) none)],[nid],[decide (0≤n),decide (n≤m),decide ((inf.bytes:Int) * m≤281474976710656),decide (m≤9223372036854775807)]⟩
       |none=>none)
      else some ⟨one (.ref nid),[(nid,.row true e t (z7 n.toNat x0))],[nid],[decide (0≤n),decide (n≤m),decide ((inf.bytes:Int) * m≤281474976710656),decide (m≤9223372036854775807)]⟩
     else none
    |none=>none
   |none=>none
  |_,_=>none
 |_,_,_=>none
def To:List Nat→Bool
 | []=>true
 |i::r=> !memN r i&&To r
def ZX(t:CTy):List Cell→Nat→Option (List (E t)×List Nat)
 | [],0=>some ([],[])
 |_::_,0=>none
 |cs,n + 1=>match AM ent t (cs.take t.size),ZX t (cs.drop t.size) n with
  |some (x,l),some (xs,m)=>some (x::xs,l++m)
  |_,_=>none
def Va(T:TypeId)(len:Nat)(parts:Array (Nat×Operand)):Option Raw:=
 match P.underlying T,ahy look A parts.toList with
 |some (.slice e),some vs=>match P.info? e,abU P 12 e with
  |some inf,some t=>match inf.zero with
   |some z=>match YZ (fun i=>some (i * t.size,t.size)) (ro (z7 len (z.cells.toList.map .val))) vs with
    |some cs=>bif tr&& !t.flat then
      (match VN ent t cs len with
      |some (xs,l)=>bif Nat.beq inf.size t.size&&Nat.beq z.cells.size t.size&&Nat.ble (len * t.size) 16777216&&To (qo l)then
        some ⟨one (.ref nid),(nid,.tree e t xs none)::NE (qo l),[nid],[]⟩
       else none
      |none=>none)
     else
      (match ZX ent t cs len with
      |some (xs,l)=>bif Nat.beq inf.size t.size&&Nat.beq z.cells.size t.size&&Nat.ble (len * t.size) 16777216 then
        some ⟨one (.ref nid),(nid,.row true e t xs)::frz ent l,[nid],[]⟩
       else none
      |none=>none)
    |none=>none
   |none=>none
  |_,_=>none
 |_,_=>none
def afS(T:TypeId)(parts:Array (Nat×Operand)):Option Raw:=
 match P.underlying T,P.info? T,ahy look A parts.toList with
 |some (.struct fs),some inf,some vs=>match inf.zero with
  |some z=>match YZ (ZA P fs) (z.cells.toList.map .val) vs with
   |some cs=>bif fs.all (fun fd=>(P.info? fd.type).isSome)then let f:=FE P tr T nid ⟨true,cs⟩;some ⟨.one f.v,f.es,sG f.es,[]⟩else none
   |none=>none
  |none=>none
 |_,_,_=>none
def akm(op:BinOp)(x y:Operand):Option Raw:=
 match op,evC look A x,evC look A y with
 | .quo,some (.val (.int k a)),some (.val (.int k' b))=>if k=k' then some ⟨one (.val (.int k (k.wrap (a.tdiv b)))),[],[],[decide (b≠0)]⟩else none
 | .rem,some (.val (.int k a)),some (.val (.int k' b))=>if k=k' then some ⟨one (.val (.int k (a.tmod b))),[],[],[decide (b≠0)]⟩else none
 | .shl,some (.val (.int k a)),some (.val (.int _ b))=>some ⟨one (.val (.int k (k.wrap (a * 2 ^ (min b.toNat k.bits))))),[],[],[decide (0≤b)]⟩
 | .shr,some (.val (.int k a)),some (.val (.int _ b))=>some ⟨one (.val (.int k (a.fdiv (2 ^ (min b.toNat k.bits))))),[],[],[decide (0≤b)]⟩
 |_,_,_=>none
def OQ(T:Option TypeId):Bool:=
 match T with
 |some t=>match P.underlying t with
  |some (.slice _)=>true
  |_=>false
 |none=>false
def akC(ts:Array TypeId)(x:Operand):Option Raw:=
 match evC look A x with
 |some (.ref id)=>match ent id with
  |some (.row _ _ _ xs)=>bif OQ P ts[0]? then some (.ofV (one (.val (.int .i64 xs.length))))else none
  |some (.tree _ _ xs _)=>bif OQ P ts[0]? then some (.ofV (one (.val (.int .i64 xs.length))))else none
  |some (.wk _ _ xs)=>bif OQ P ts[0]? then some (.ofV (one (.val (.int .i64 xs.length))))else none
  |_=>none
 |_=>none
def adP(ts:Array TypeId)(x y:Operand):Option Raw:=
 match evC look A x,evC look A y,ts.toList with
 |some (.ref id),some (.ref jd),[t1,t2]=>match ent id,ent jd with
  |some (.row true e t xs),some (.row _ _ t' ys)=>match P.underlying t1,P.info? e with
   |some (.slice e'),some inf=>match inf.zero with
    |some z=>if h:t'=t then
      bif Nat.beq t1 t2&&Nat.beq e' e&&Nat.beq inf.size t.size&&Nat.beq z.cells.size t.size then
       some ⟨one (.ref nid),[(nid,.row true e t (xs++(h ▸ ys))),(id,.gone)],[nid],[decide (xs.length + ys.length≤9223372036854775807),decide ((xs.length + ys.length) * inf.bytes≤140737488355328)]⟩
      else none
     else none
    |none=>none
   |_,_=>none
  |some (.tree e t xs none),some (.tree _ t' ys none)=>match P.underlying t1,P.info? e with
   |some (.slice e'),some inf=>match inf.zero with
    |some z=>if h:t'=t then
      bif Nat.beq t1 t2&&Nat.beq e' e&&Nat.beq inf.size t.size&&Nat.beq z.cells.size t.size&& !Nat.beq id jd then
       some ⟨one (.ref nid),[(nid,.tree e t (xs++(h ▸ ys)) none),(id,.gone),(jd,.gone)],[nid],[decide (xs.length + ys.length≤9223372036854775807),decide ((xs.length + ys.length) * inf.bytes≤140737488355328)]⟩
      else none
     else none
    |none=>none
   |_,_=>none
  |_,_=>none
 |some (.ref id),some (.val (.slice (some _) 0 _)),[t1,t2]=>match ent id with
  |some (.row true e t xs)=>match P.underlying t1,P.info? e with
   |some (.slice e'),some inf=>match inf.zero with
    |some z=>
      bif Nat.beq t1 t2&&Nat.beq e' e&&Nat.beq inf.size t.size&&Nat.beq z.cells.size t.size then
       some ⟨one (.ref nid),[(nid,.row true e t xs),(id,.gone)],[nid],[decide (xs.length≤9223372036854775807),decide (xs.length * inf.bytes≤140737488355328)]⟩
      else none
    |none=>none
   |_,_=>none
  |_=>none
 |some (.ref id),some (.val (.slice none 0 0)),[t1,t2]=>match ent id with
  |some (.row true e t xs)=>match P.underlying t1,P.info? e with
   |some (.slice e'),some inf=>match inf.zero with
    |some z=>
      bif Nat.beq t1 t2&&Nat.beq e' e&&Nat.beq inf.size t.size&&Nat.beq z.cells.size t.size then
       some ⟨one (.ref nid),[(nid,.row true e t xs),(id,.gone)],[nid],[decide (xs.length≤9223372036854775807),decide (xs.length * inf.bytes≤140737488355328)]⟩
      else none
    |none=>none
   |_,_=>none
  |_=>none
 |_,_,_=>none
end
end Go.SX
namespace Go.SX
open Go.RowKit
structure Ctx (B:Base) (ρ:Nm) (s:St) (a:Act) (w:World) (look:Nat→Option SS) (ent:Nat→Option Entry) (A:List (Nat×Bool)):Prop where
 hM:Mdl B ρ s a w
 hL: ∀ k x,look k=some x→s.look k=some x
 hE: ∀ id e,ent id=some e→s.ent id=some e
 hA: ∀ q∈A,yl a.tmps q.1=some q.2
def lP(B:Base)(s:St)(ρ:Nm)(r:Raw)(o:Oper)(a:Act)(K:Act→World→Prop):Prop:= ∀ (ρ':Nm) (u:Value) (w':World),Ext B s.used ρ ρ'→u=r.v.conc ρ'→Hp B ρ' (aZ s.ent r.es) (bk s.used r.new) w'→K (a.put o.dst u) w'
section
variable{P:Program}{tbl:List (PF P)}{tr:Bool}{s:St}{look:Nat→Option SS}{ent:Nat→Option Entry}{A:List (Nat×Bool)}{nid:Nat}{o:Oper}{r:Raw}{B:Base}{ρ:Nm}{a:Act}{w:World}{K:Act→World→Prop}{Q:Exit→Act→World→Prop}
theorem Ctx.ev(c:Ctx B ρ s a w look ent A){x:Operand}{v:SV}(h:ev look A x=some v):a.eval x=v.conc ρ∧v.inU s.used:=⟨abt c.hM c.hL c.hA h,akr c.hM c.hL h⟩
theorem Ctx.evC(c:Ctx B ρ s a w look ent A){x:Operand}{v:Cell}(h:evC look A x=some v):a.eval x=v.conc ρ∧v.inU s.used:=by
 unfold SX.evC at h
 split at h
 ·rename_i u hu
  cases h
  obtain⟨h1,h2⟩:=c.ev hu
  exact⟨h1,h2 _ (by simp)⟩
 ·cases h
theorem Ctx.evI(c:Ctx B ρ s a w look ent A){x:Operand}{i:Int}(h:evI look A x=some i): ∃ k,a.eval x= .int k i:=by
 unfold SX.evI at h
 split at h
 ·rename_i k i' hu
  cases h
  exact⟨k,(c.evC hu).1⟩
 ·cases h
theorem Ctx.ev1(c:Ctx B ρ s a w look ent A){x:Operand}{v:V1}(h:ev1 look A x=some v):a.eval x=v.conc ρ∧v.inU s.used:=by
 unfold SX.ev1 at h
 split at h
 ·rename_i u hu
  cases h
  exact c.ev hu
 ·cases h
theorem Ctx.hp(c:Ctx B ρ s a w look ent A):Hp B ρ s.ent s.used w:=c.hM.hp
theorem V1.cells?_conc(ρ:Nm){v:V1}{cs:List Cell}(h:v.cells? =some cs):(v.conc ρ).cells=(cs.map (Cell.conc ρ)).toArray:=by
 obtain⟨g,l⟩:=v
 unfold V1.cells? at h
 split at h
 ·rename_i e1;simp only at e1 h;subst e1;cases h;rfl
 ·cases h
 ·rename_i c Oc e1 e2
  simp only at e1 e2;subst e1 e2;cases h
  show ((V1.mk false [c]).conc ρ).cells=_
  simp only [V1.conc]
  cases c with
  |val v=>
   cases v with
   |agg x=>exact(Oc x rfl).elim
   |_=>rfl
  |ref id=>simp only [Cell.conc,w9,List.map_nil];exact acG _
  |vw id z k=>simp only [Cell.conc,w9,List.map_nil];exact acG _
  |_=>rfl
 ·cases h
theorem V1.cells?_inU{U:Nat→Bool}{v:V1}{cs:List Cell}(hv:v.inU U)(h:v.cells? =some cs): ∀ c∈cs,c.inU U:=by
 obtain⟨g,l⟩:=v
 unfold V1.cells? at h
 split at h
 ·cases h;exact hv
 ·cases h
 ·rename_i e1 e2;simp only at e1 e2;subst e1 e2;cases h;exact hv
 ·cases h
theorem au{u:Value}{w':World}(hr:(execOp a.eval o).run P w= .ok (.value u) w')(h:K (a.put o.dst u) w'):o.wp P a w K Q:=by
 unfold Oper.wp;rw [hr];exact h
theorem KZ{w':World}(hr:(execOp a.eval o).run P w= .ok .skip w')(h:K (a.put o.dst undef) w'):o.wp P a w K Q:=by
 unfold Oper.wp;rw [hr];exact h
theorem lP.same{v:SV}{nd:List Bool}(hr:r=⟨v,[],[],nd⟩)(hC:lP B s ρ r o a K){w':World}(hp:Hp B ρ s.ent s.used w'):K (a.put o.dst (v.conc ρ)) w':=by
 subst hr
 exact hC ρ _ w' (Ext.refl _ _ _) rfl hp
def Gh(ρ:Nm)(L:List Nat):Nm:=⟨fun i=>bif memN L i then .slice none 0 0 else ρ.nm i,ρ.mem,fun i=>bif memN L i then []else ρ.fp i⟩
theorem memN_mem: ∀ {l:List Nat} {i:Nat},memN l i=true↔i∈l
 | [],i=>by simp [memN]
 |p::l,i=>by
  simp only [memN,List.mem_cons]
  cases hb:Nat.beq p i with
  |true=>have:=q8 hb;simp [this]
  |false=>
   have Oc:p≠i:=fun e=>by subst e;simp at hb
   simp only [cond_false,memN_mem]
   constructor
   ·exact .inr
   ·rintro(rfl | h)
    ·exact(Oc rfl).elim
    ·exact h
theorem agi{c:Cell}(h:Sd c=true)(ρ:Nm):c.conc ρ= .slice none 0 0:=by
 unfold Sd at h
 split at h
 ·rfl
 ·cases h
theorem VS{ρ:Nm}{L:List Nat}: ∀ (ts:List (Option (TypeId×CTy))) (cs:List Cell) (n:Nat),(∀ i∈sG (RD tr ts cs n),i∈L)→(∀ c∈cs,c.conc (Gh ρ L)=c.conc ρ)→
  (Vy ts cs n).map (Cell.conc (Gh ρ L))=cs.map (Cell.conc ρ)
 | [],cs,n,_,hc=>by simp only [Vy];exact List.map_congr_left hc
 |none::ts,[],n,_,hc=>rfl
 |some _::ts,[],n,_,hc=>rfl
 |none::ts,c::cs,n,hk,hc=>by
  simp only [Vy,w9]
  rw [hc c (by simp),VS ts cs n hk fun c hm=>hc c (by simp [hm])]
 |some (e,t)::ts,c::cs,n,hk,hc=>by
  simp only [Vy]
  simp only [RD]at hk
  cases hn:Sd c with
  |true=>
   simp only [hn,cond_true]at hk ⊢
   simp only [w9]
   rw [VS ts cs (n + 1) (fun i hi=>hk i (by simp [sG]at hi ⊢;exact .inr hi)) fun c hm=>hc c (by simp [hm])]
   have:memN L n=true:=memN_mem.2 (hk n (by simp [sG]))
   rw [agi hn]
   simp [Cell.conc,Nm.of,Gh,this,HX]
  |false=>
   simp only [hn,cond_false]at hk ⊢
   simp only [w9]
   rw [hc c (by simp),VS ts cs n hk fun c hm=>hc c (by simp [hm])]
theorem VT: ∀ (ts:List (Option (TypeId×CTy))) (cs:List Cell) (n:Nat) (i:Nat) (e:Entry),look? (RD tr ts cs n) i=some e→i∈sG (RD tr ts cs n)∧ ∃ e0 t,e=acq tr e0 t
 | [],cs,n,i,e,h=>by simp [RD,look?]at h
 |none::ts,[],n,i,e,h=>by simp [RD,look?]at h
 |some _::ts,[],n,i,e,h=>by simp [RD,look?]at h
 |none::ts,c::cs,n,i,e,h=>VT ts cs n i e h
 |some (e0,t)::ts,c::cs,n,i,e,h=>by
  simp only [RD]at h ⊢
  cases hn:Sd c with
  |true=>
   simp only [hn,cond_true]at h ⊢
   simp only [look?]at h
   cases hb:Nat.beq n i with
   |true=>
    have:=q8 hb;subst this
    simp at h;subst h
    exact⟨by simp [sG],e0,t,rfl⟩
   |false=>
    simp [hb]at h
    obtain⟨h1,h2⟩:=VT ts cs (n + 1) i e h
    exact⟨by simp only [sG,w9,List.mem_cons]at h1 ⊢;exact .inr h1,h2⟩
  |false=>
   simp only [hn,cond_false]at h ⊢
   exact VT ts cs n i e h
theorem abz: ∀ (ts:List (Option (TypeId×CTy))) (cs:List Cell) (n:Nat) (i:Nat),i∈sG (RD tr ts cs n)→n≤i
 | [],cs,n,i,h=>by simp [RD,sG]at h
 |none::ts,[],n,i,h=>by simp [RD,sG]at h
 |some _::ts,[],n,i,h=>by simp [RD,sG]at h
 |none::ts,c::cs,n,i,h=>abz ts cs n i h
 |some (e0,t)::ts,c::cs,n,i,h=>by
  simp only [RD]at h
  cases hn:Sd c with
  |true=>
   simp only [hn,cond_true,sG,w9,List.mem_cons]at h
   rcases h with rfl | h
   ·exact Nat.le_refl _
   ·have:=abz ts cs (n + 1) i h;omega
  |false=>simp only [hn,cond_false]at h;exact abz ts cs n i h
theorem Zv{U:Nat→Bool}: ∀ (ts:List (Option (TypeId×CTy))) (cs:List Cell) (n:Nat),(∀ i∈sG (RD tr ts cs n),U i=true)→(∀ c∈cs,c.inU U)→ ∀ c∈Vy ts cs n,c.inU U
 | [],cs,n,_,hc=>by simp only [Vy];exact hc
 |none::ts,[],n,_,hc=>by simp [Vy]
 |some _::ts,[],n,_,hc=>by simp [Vy]
 |none::ts,c::cs,n,hk,hc=>by
  simp only [Vy]
  intro x hx
  rcases List.mem_cons.1 hx with rfl | hx
  ·exact hc _ (by simp)
  ·exact Zv ts cs n hk (fun c hm=>hc c (by simp [hm])) x hx
 |some (e,t)::ts,c::cs,n,hk,hc=>by
  simp only [Vy]
  simp only [RD]at hk
  cases hn:Sd c with
  |true=>
   simp only [hn,cond_true]at hk ⊢
   intro x hx
   rcases List.mem_cons.1 hx with rfl | hx
   ·exact hk n (by simp [sG])
   ·exact Zv ts cs (n + 1) (fun i hi=>hk i (by simp [sG]at hi ⊢;exact .inr hi)) (fun c hm=>hc c (by simp [hm])) x hx
  |false=>
   simp only [hn,cond_false]at hk ⊢
   intro x hx
   rcases List.mem_cons.1 hx with rfl | hx
   ·exact hc _ (by simp)
   ·exact Zv ts cs n hk (fun c hm=>hc c (by simp [hm])) x hx
theorem aeP{U:Nat→Bool}{T:TypeId}{n:Nat}{v:V1}(hv:v.inU U)(hk: ∀ i∈sG (FE P tr T n v).es,U i=true):(FE P tr T n v).v.inU U:=by
 unfold FE at hk ⊢
 cases hb:v.cs.any Sd with
 |false=>exact hv
 |true=>simp only [hb]at hk ⊢;exact Zv _ _ _ hk hv
theorem ajo{T:TypeId}{n:Nat}{v:V1}{i:Nat}(h:i∈sG (FE P tr T n v).es):n≤i:=by
 unfold FE at h
 cases hb:v.cs.any Sd with
 |false=>simp [hb,sG]at h
 |true=>simp only [hb]at h;exact abz _ _ _ _ h
theorem Ta{ent:Nat→Option Entry}{used:Nat→Bool}(h:Hp B ρ ent used w){T:TypeId}{n:Nat}{v:V1}(hv:v.inU used)(OE: ∀ i∈sG (FE P tr T n v).es,used i=false):
  ∃ ρ':Nm,Ext B used ρ ρ'∧ρ'.mem=ρ.mem∧Hp B ρ' (aZ ent (FE P tr T n v).es) (bk used (sG (FE P tr T n v).es)) w∧(FE P tr T n v).v.conc ρ'=v.conc ρ∧
   ((FE P tr T n v).v.agg=v.agg)∧(FE P tr T n v).v.cs.map (Cell.conc ρ')=v.cs.map (Cell.conc ρ):=by
 obtain⟨g,cs⟩:=v
 unfold FE at OE ⊢
 cases hb:cs.any Sd with
 |false=>exact⟨ρ,Ext.refl _ _ _,rfl,h,rfl,rfl,rfl⟩
 |true=>
  simp only [hb]at OE ⊢
  let L:=sG (RD tr (Mb P 12 T) cs n)
  have Ff: ∀ id,used id=true→Gh ρ L id=ρ id:=fun id jy=>by
   have:memN L id=false:=by
    cases hm:memN L id with
    |false=>rfl
    |true=>rw [OE id (memN_mem.1 hm)]at jy;cases jy
   simp [Nm.of,Gh,this]
  have Tg:=VS (ρ:=ρ) (L:=L) (Mb P 12 T) cs n (fun i hi=>hi) fun c hc=>Cell.conc_congr Ff (hv c hc)
  obtain⟨hx,hp⟩:=h.names (ρ':=Gh ρ L) (es:=RD tr (Mb P 12 T) cs n) (new:=L) Ff rfl (hfp:=fun id jy _=>by
   have:memN L id=false:=by
    cases hm:memN L id with
    |false=>rfl
    |true=>rw [OE id (memN_mem.1 hm)]at jy;cases jy
   simp [Gh,this]) fun id e he=>by
   obtain⟨h1,e0,t,rfl⟩:=VT _ _ _ _ _ he
   have hm:memN L id=true:=memN_mem.2 h1
   have hv:Gh ρ L id= .slice none 0 0:=by simp [Nm.of,Gh,hm,HX]
   have hfp:(Gh ρ L).fp id= []:=by simp [Gh,hm]
   have hr:(Entry.row true e0 t []).holds B (Gh ρ L) w id:=by
    simp only [Entry.holds,hv]
    exact⟨[],Sm _ _ _,jY.nil _ _,by simp [fB]⟩
   have ht:(Entry.tree e0 t [] none).holds B (Gh ρ L) w id:=by
    simp only [Entry.holds,hv,hfp]
    exact⟨[],[],Sm _ _ _,⟨rfl,fun k hc h=>(by cases h),fun i x l _ hx=>(by simp at hx),fun i j l l' k hl=>(by simp at hl)⟩,rfl,(by simp [fB]),(by simp [fB])⟩
   refine⟨?_,by simp [bk,hm],?_,?_⟩
   ·unfold acq;split
    ·exact ht
    ·exact hr
   ·unfold acq;split <;> trivial
   ·unfold acq;split <;> simp only [Entry.ob,hv,fB,hfp,List.append_nil]
  refine⟨Gh ρ L,hx,rfl,hp,?_,trivial,Tg⟩
  simp only [V1.conc]
  cases g with
  |true=>simp only [Tg]
  |false=>
   match cs,Tg with
   | [],_=>cases Mb P 12 T with
    |nil=>rfl
    |cons t _=>cases t <;> rfl
   | [c],Tg=>
    have hl: ∃ c',Vy (Mb P 12 T) [c] n= [c']:=by
     match Mb P 12 T with
     | []=>exact⟨c,rfl⟩
     |none::ts=>exact⟨c,by cases ts with | nil=>rfl | cons t _=>cases t <;> rfl⟩
     |some t::ts=>
      simp only [Vy]
      cases Sd c with
      |true=>exact⟨.ref n,by cases ts with | nil=>rfl | cons t _=>cases t <;> rfl⟩
      |false=>exact⟨c,by cases ts with | nil=>rfl | cons t _=>cases t <;> rfl⟩
    obtain⟨c',hc'⟩:=hl
    rw [hc']at Tg ⊢
    simpa using Tg
   |c1::c2::cr,Tg=>
    have:=congrArg List.length Tg
    simp only [List.length_map,List.length_cons]at this
    match hq:Vy (Mb P 12 T) (c1::c2::cr) n,this with
    |_::_::_,_=>rfl
end
end Go.SX
namespace Go.SX
open Go.RowKit
section
variable{P:Program}{tr:Bool}{s:St}{look:Nat→Option SS}{ent:Nat→Option Entry}{A:List (Nat×Bool)}{nid:Nat}{o:Oper}{r:Raw}{B:Base}{ρ:Nm}{a:Act}{w:World}{K:Act→World→Prop}{Q:Exit→Act→World→Prop}
theorem aaY(c:Ctx B ρ s a w look ent A){T:TypeId}{x:Operand}(ho:o.op= .move x∨o.op= .assign x)(h:ahd P tr look A nid T x=some r)(jM: ∀ i∈r.new,s.used i=false)(hC:lP B s ρ r o a K):o.wp P a w K Q:=by
 have hr: ∀ w,(execOp a.eval o).run P w= .ok (.value (a.eval x)) w:=fun w=>by
  obtain⟨dst,op,ty,pos,after,guard⟩:=o
  rcases ho with ho | ho <;> (simp only at ho;subst ho;rfl)
 unfold ahd at h
 split at h
 ·rename_i v hv
  cases h
  obtain⟨h1,h2⟩:=c.ev hv
  obtain⟨ρ',hx,_,hp,Tg,_⟩:=Ta (P:=P) (tr:=tr) (T:=T) (n:=nid) (v:=v) c.hp h2 jM
  refine au (hr w) (hC ρ' _ w hx ?_ hp)
  rw [h1];exact Tg.symm
 ·rename_i v hv
  cases h
  obtain⟨h1,h2⟩:=c.ev hv
  refine au (hr w) ?_
  rw [h1]
  exact lP.same rfl hC c.hp
 ·cases h
theorem afh(c:Ctx B ρ s a w look ent A){cc x y:Operand}(ho:o.op= .pick cc x y)(h:aiU look A cc x y=some r)(hC:lP B s ρ r o a K):o.wp P a w K Q:=by
 obtain⟨dst,op,ty,pos,after,guard⟩:=o
 simp only at ho;subst ho
 unfold aiU at h
 split at h
 ·rename_i jc cb hc
  split at h
  ·rename_i vx vy hx hy
   cases hm:Gg cb vx vy with
   |none=>simp [hm]at h
   |some v=>
    simp [hm]at h;subst h
    have hcv:a.eval (.tmp jc)= .bool cb:=(c.evC hc).1
    have hyl:yl a.tmps jc=some cb:=by
     simp only [Act.eval,Array.getD_eq_getD_getElem?]at hcv
     unfold yl
     cases hq:a.tmps[jc]? with
     |none=>rw [hq]at hcv;simp [undef]at hcv
     |some u=>rw [hq]at hcv;simp at hcv;subst hcv;rfl
    refine au (u:=cond cb (a.eval x) (a.eval y)) (w':=w) ?_ ?_
    ·cases cb <;> simp [execOp,hcv,asBool]
    ·have:cond cb (a.eval x) (a.eval y)=v.conc ρ:=by
      rw [JC ρ hm]
      have hA': ∀ q∈(jc,cb)::A,yl a.tmps q.1=some q.2:=fun q hq=>by
       rcases List.mem_cons.1 hq with rfl | hq
       ·exact hyl
       ·exact c.hA q hq
      cases cb with
      |true=>simpa using abt c.hM c.hL hA' hx
      |false=>simpa using abt c.hM c.hL hA' hy
     rw [this]
     exact lP.same rfl hC c.hp
  ·cases h
 ·cases h
theorem OW(ρ:Nm)(l:List Value):(l.map Cell.val).map (Cell.conc ρ)=l:=by
 rw [List.map_map,show (Cell.conc ρ ∘ Cell.val)=id from rfl,List.map_id]
theorem ab8{l:List (Nat×Entry)}{i:Nat}{e:Entry}(h:look? l i=some e):i∈sG l:=by
 induction l with
 |nil=>simp [look?]at h
 |cons p l ih=>
  simp only [look?]at h
  simp only [sG,w9,List.mem_cons]
  cases hb:Nat.beq p.1 i with
  |true=>exact .inl (q8 hb).symm
  |false=>simp [hb]at h;exact .inr (ih h)
theorem vM{used:Nat→Bool}{l:List Nat}{i:Nat}(h:i∈l):bk used l i=true:=by simp [bk,memN_mem.2 h]
theorem agO{used:Nat→Bool}{l:List Nat}{i:Nat}(h:i∉l)(hu:used i=false):bk used l i=false:=by
 have:memN l i=false:=by
  cases hm:memN l i with
  |false=>rfl
  |true=>exact(h (memN_mem.1 hm)).elim
 simp [bk,this,hu]
theorem Zt(c:Ctx B ρ s a w look ent A){T:TypeId}{cs:List Cell}(Jr: ∀ x∈cs,x.inU s.used)
  (hr:(execOp a.eval o).run P w= .ok (.value (.pointer (some ⟨w.heap.size,0,none⟩))) (w.alloc (.cells (cs.map (Cell.conc ρ)).toArray T)))
  (jM: ∀ i∈nid::sG (FE P tr T (nid + 1) ⟨true,cs⟩).es,s.used i=false)
  (hC:lP B s ρ ⟨one (.ptr nid 0),(nid,.box T (FE P tr T (nid + 1) ⟨true,cs⟩).v.cs)::(FE P tr T (nid + 1) ⟨true,cs⟩).es,nid::sG (FE P tr T (nid + 1) ⟨true,cs⟩).es,[]⟩ o a K):o.wp P a w K Q:=by
 obtain⟨ρ1,hx1,hm1,hp1,_,_,Tg⟩:=Ta (P:=P) (tr:=tr) (T:=T) (n:=nid + 1) (v:=⟨true,cs⟩) c.hp Jr fun i hi=>jM i (by simp [hi])
 have OE:bk s.used (sG (FE P tr T (nid + 1) ⟨true,cs⟩).es) nid=false:=agO (fun hi=>by have:=ajo hi;omega) (jM nid (by simp))
 have BV: ∀ x∈(FE P tr T (nid + 1) ⟨true,cs⟩).v.cs,x.inU (bk s.used (sG (FE P tr T (nid + 1) ⟨true,cs⟩).es)):=
  aeP (v:=⟨true,cs⟩) (fun x hx=>Cell.inU_mono ic (Jr x hx)) fun i hi=>vM hi
 obtain⟨hx2,hp2⟩:=hp1.alloc OE T (FE P tr T (nid + 1) ⟨true,cs⟩).v.cs BV
 rw [Tg,yP,ac4]at hp2
 refine au hr (hC _ _ _ (hx1.trans hx2 ic) ?_ hp2)
 simp only [one,SV.conc,V1.conc,Cell.conc]
 rw [fy _ _ rfl];rfl
theorem adN(c:Ctx B ρ s a w look ent A){T:TypeId}(ho:o.op= .alloc T)(h:afL P tr nid T=some r)(jM: ∀ i∈r.new,s.used i=false)(hC:lP B s ρ r o a K):o.wp P a w K Q:=by
 obtain⟨dst,op,ty,pos,after,guard⟩:=o
 simp only at ho;subst ho
 unfold afL at h
 split at h
 ·rename_i i hi
  split at h
  ·rename_i z hz
   cases h
   refine Zt c (fun x hx=> ?_) ?_ jM hC
   ·obtain⟨v,_,rfl⟩:=List.mem_map.1 hx;trivial
   ·rw [OW]
    simp [execOp,Instr.alloc,zeroValue,typeInfo,hi,hz,newVar,newRow,newObj];rfl
  ·cases h
 ·cases h
theorem afR(c:Ctx B ρ s a w look ent A){T:TypeId}{x:Operand}(ho:o.op= .box T x)(h:akj P tr look A nid T x=some r)(jM: ∀ i∈r.new,s.used i=false)(hC:lP B s ρ r o a K):o.wp P a w K Q:=by
 obtain⟨dst,op,ty,pos,after,guard⟩:=o
 simp only at ho;subst ho
 unfold akj at h
 split at h
 ·rename_i v hv
  split at h
  ·rename_i cs Jr
   cases h
   obtain⟨h1,h2⟩:=c.ev1 hv
   refine Zt c (V1.cells?_inU h2 Jr) ?_ jM hC
   simp [execOp,Instr.box,newVar,newRow,newObj,h1,V1.cells?_conc ρ Jr];rfl
  ·cases h
 ·cases h
theorem yo(b off j:Nat):(⟨b,off,none⟩:Addr).add j=⟨b,off + j,none⟩:=by
 unfold Addr.add;split <;> simp_all
theorem VV{T:TypeId}{d:TypeDesc}(h:P.underlying T=some d)(w:World):(isAgg T).run P w= .ok (aiz d) w:=by
 unfold isAgg
 rw [Sem.run_bind,run_underlying h w]
 cases d <;> rfl
theorem VW{T:TypeId}{off base b:Nat}{cs:List Cell}{v:V1}(hv:Vn P T off cs=some v)(hcell: ∀ j u,(cs.map (Cell.conc ρ))[j]? =some u→w.cell? ⟨b,base + j,none⟩=some u):
  (loadVar T ⟨b,base + off,none⟩).run P w= .ok (v.conc ρ) w:=by
 unfold Vn at hv
 split at hv
 ·rename_i d i hd hi
  split at hv
  ·rename_i Cr
   cases hb:Nat.ble (off + i.size) cs.length with
   |false=>simp [hb]at hv
   |true=>
    simp [hb]at hv;subst hv
    have Gt:=j6 hb
    have jw:(((cs.drop off).take i.size).map (Cell.conc ρ)).length=i.size:=by simp;omega
    have hl:(loadCells ⟨b,base + off,none⟩ (((cs.drop off).take i.size).map (Cell.conc ρ)).length).run P w= .ok (((cs.drop off).take i.size).map (Cell.conc ρ)).toArray w:=
     run_loadCells_list (P:=P) w _ _ fun j u hj=>by
      rw [yo,Nat.add_assoc]
      refine hcell _ _ ?_
      rw [← hj]
      simp only [List.getElem?_map,List.getElem?_take,List.getElem?_drop]
      split
      ·rfl
      ·rename_i gm
       have:=(z6.1 hj).1
       rw [jw]at this;omega
    rw [jw]at hl
    simp [loadVar,Sem.run_bind,VV hd,Cr,sizeOf,typeInfo,hi,hl,V1.conc]
  ·rename_i Cr
   split at hv
   ·rename_i c hc
    cases hv
    have:w.cell? ⟨b,base + off,none⟩=some (c.conc ρ):=hcell _ _ (by simp [hc])
    simp [loadVar,Sem.run_bind,VV hd,Cr,V1.conc,this]
   ·cases hv
 ·cases hv
theorem Nb{T U:TypeId}{off b:Nat}{cur:Array Value}{n:Nat}{ns:List Cell}{v:Value}{off0:Nat}(ii:AD P T off0 n ns=true)(Gt:off0 + ns.length≤n→off + ns.length≤cur.size)(hv:v.cells=(ns.map (Cell.conc ρ)).toArray)(hh:w.heap[b]? =some (.cells cur U (0,0))):
  (storeVar T ⟨b,off,none⟩ v).run P w= .ok () (w.setRow b (cur.toList.take off++ns.map (Cell.conc ρ)++cur.toList.drop (off + ns.length)).toArray):=by
 unfold AD at ii
 split at ii
 ·rename_i i hi
  simp only [w3]at ii
  obtain⟨⟨h1,h2⟩,h3⟩:=ii
  have h1:=q8 h1
  have h2:=Gt (j6 h2)
  have RX:=run_storeCells_at P b off U (ns.map (Cell.conc ρ)) 0 cur w hh (by simp;omega) (fun u hu=>by
   obtain⟨c,hc,rfl⟩:=List.mem_map.1 hu
   have:=List.all_eq_true.1 h3 c hc
   cases c with
   |val v=>exact this
   |ref id=>exact ZH _
   |vw id z k=>exact ZH _
   |_=>rfl)
  have FG:v.cells.size=i.size:=by rw [hv];simp [h1]
  have hvl:v.cells.toList=ns.map (Cell.conc ρ):=by rw [hv]
  simp only [storeVar,sizeOf,typeInfo,program,Sem.run_bind,Sem.run,hi,Result.andThen_ok,Sem.run_pure,FG,ne_eq,not_true_eq_false,if_false,hvl]
  rw [RX]
  simp
 ·cases ii
end
end Go.SX
namespace Go.SX
open Go.RowKit
section
variable{P:Program}{tr:Bool}{s:St}{look:Nat→Option SS}{ent:Nat→Option Entry}{A:List (Nat×Bool)}{nid:Nat}{o:Oper}{r:Raw}{B:Base}{ρ:Nm}{a:Act}{w:World}{K:Act→World→Prop}{Q:Exit→Act→World→Prop}
theorem wQ{b k:Nat}{arr:Array Value}{T:TypeId}{fz:Nat×Nat}(h:w.heap[b]? =some (.cells arr T fz)):w.cell? ⟨b,k,none⟩=arr[k]? :=by
 simp [World.cell?,h]
theorem adE{own:Bool}{id:Nat}{e:TypeId}{t:CTy}{xs:List (E t)}(h:(Entry.row own e t xs).holds B ρ w id)(hf: ∀ b o,ρ.mem b=some o→w.heap[b]? =some o){i:Nat}{x:E t}(hx:xs[i]? =some x):
  ∃ chunk,Rep ρ.mem t chunk x∧ ∀ j u,chunk[j]? =some u→w.cell? ⟨Mv (ρ id),VB (ρ id) + i * t.size + j,none⟩=some u:=by
 cases own with
 |false=>
  rcases h with⟨_,hn⟩ | ⟨b,off,cap,arr,T,fz,h1,h2,h3,h4,h5⟩
  ·rw [hn]at hx;simp at hx
  ·refine⟨_,h5 i x hx,fun j u hj=> ?_⟩
   rw [h1]
   simp only [Mv,VB]
   rw [wQ (hf _ _ h4)]
   simp only [List.getElem?_take,List.getElem?_drop]at hj
   split at hj
   ·simpa using hj
   ·cases hj
 |true=>
  obtain⟨cs,h1,h2,_⟩:=h
  refine⟨_,h2.2 i x hx,fun j u hj=> ?_⟩
  have gm:=tO (z:=t.size) (z6.1 hx).1
  rcases h1.2 with⟨_,hn⟩ | ⟨g,cap,cur,hv,_,hg,Gt,TZ,FG,Ub⟩
  ·have:=(z6.1 hx).1;omega
  ·rw [hv]
   simp only [Mv,VB,Nat.zero_add]
   rw [wQ hg]
   rw [← Ub]at hj
   simp only [List.getElem?_take,List.getElem?_drop]at hj
   split at hj
   ·split at hj
    ·simpa using hj
    ·cases hj
   ·cases hj
theorem Tc{α:Type}{xs:List α}{i:Nat}{d:α}(h:i < xs.length):xs[i]? =some (xs[i]?.getD d):=by
 rw [List.getElem?_eq_getElem h];rfl
theorem LA{id z i off:Nat}:(Cell.el id z i off).conc ρ= .pointer (some ⟨Mv (ρ id),VB (ρ id) + (i * z + off),none⟩):=rfl
theorem ZB{id off:Nat}:(Cell.ptr id off).conc ρ= .pointer (some ⟨Mv (ρ id),off,none⟩):=rfl
theorem ahN{e:TypeId}{z n:Nat}{v:Value}{cs:List Value}(h:CC w e z v n cs){k:Nat}(hk:k < n):
  ∃ g cap,v= .slice (some ⟨g,0,none⟩) n cap∧ ∀ j u,((cs.drop (k * z)).take z)[j]? =some u→w.cell? ⟨g,k * z + j,none⟩=some u:=by
 rcases h.2 with⟨_,hn⟩ | ⟨g,cap,cur,hv,h0,hg,Gt,TZ,FG,Ub⟩
 ·omega
 ·refine⟨g,cap,hv,fun j u hj=> ?_⟩
  rw [wQ hg,← Array.getElem?_toList]
  rw [List.getElem?_take]at hj
  split at hj
  ·rename_i hjz
   rw [List.getElem?_drop,← Ub,List.getElem?_take]at hj
   split at hj
   ·exact hj
   ·cases hj
  ·cases hj
theorem ae6(c:Ctx B ρ s a w look ent A){T:TypeId}{x:Operand}(ho:o.op= .load T x)(h:aiK P look ent A nid T x=some r)(jM: ∀ i∈r.new,s.used i=false)(dq: ∀ b∈r.nd,b=true)(hC:lP B s ρ r o a K):o.wp P a w K Q:=by
 obtain⟨dst,op,ty,pos,after,guard⟩:=o
 simp only at ho;subst ho
 unfold aiK at h
 split at h
 ·rename_i id off hx
  split at h
  ·rename_i U cs he
   split at h
   ·rename_i v hv
    cases h
    obtain⟨⟨b,h1,h2,_⟩,_,_⟩:=c.hp.he _ _ (c.hE _ _ he)
    have hr:=VW (P:=P) (ρ:=ρ) (base:=0) (b:=b) (w:=w) hv fun j u hj=>by
     rw [Nat.zero_add,wQ h2];simpa using hj
    rw [Nat.zero_add]at hr
    refine au (u:=v.conc ρ) (w':=w) ?_ (lP.same (v:= .one v) rfl hC c.hp)
    have:=(c.evC hx).1
    rw [ZB,h1]at this
    simp only [Mv]at this
    simp [execOp,Instr.loadAt,this,Instr.sureAddr,hr]
   ·cases h
  ·cases h
 ·rename_i id z i off hx
  split at h
  ·rename_i own e t xs he
   cases hz:Nat.beq z t.size with
   |false=>simp [hz]at h
   |true=>
    have:=q8 hz;subst this
    simp only [hz,cond_true]at h
    split at h
    ·rename_i v hv
     cases h
     have hi:i < xs.length:=by simpa using dq (decide (i < xs.length)) (by simp)
     obtain⟨h1,jy,_⟩:=c.hp.he _ _ (c.hE _ _ he)
     obtain⟨chunk,hc1,hc2⟩:=adE h1 c.hp.hf.dat (Tc (d:=sW t) hi)
     obtain⟨ρ',m',f',k',e',r'⟩:=Ts t chunk _ nid ρ hc1
     have Ff: ∀ id,s.used id=true→ρ' id=ρ id:=fun id jy=>k' id (by
      have: ¬ (nid≤id∧id < nid + t.nsl):=fun hh=>by
       have:=jM id (memN_mem.1 (oW.2 hh))
       rw [this]at jy;cases jy
      omega)
     obtain⟨hX,hp⟩:=c.hp.names (es:=Hl t (xs[i]?.getD (sW t)) nid) (new:=aK nid t.nsl) Ff m' (hfp:=fun id _ _=>by rw [f']) fun id e he=>by
      obtain⟨h0,h3,h4⟩:=r' id e he
      rcases h0 with rfl | ⟨e0,t0,ys,rfl,hr⟩
      ·exact⟨trivial,vM (memN_mem.1 (oW.2 ⟨h3,h4⟩)),trivial,rfl⟩
      ·exact⟨by simp only [Entry.holds];rw [m'];exact hr,vM (memN_mem.1 (oW.2 ⟨h3,h4⟩)),trivial,rfl⟩
     have hr:=VW (P:=P) (ρ:=ρ') (base:=VB (ρ id) + i * t.size) (b:=Mv (ρ id)) (w:=w) hv fun j u hj=>by
      rw [← e']at hj;exact hc2 j u hj
     refine au (u:=v.conc ρ') (w':=w) ?_ (hC ρ' _ w hX rfl hp)
     have:=(c.evC hx).1
     rw [LA,← Nat.add_assoc]at this
     simp [execOp,Instr.loadAt,this,Instr.sureAddr,hr]
    ·cases h
  ·rename_i e t xs he
   cases hz:Nat.beq z t.size with
   |false=>simp [hz]at h
   |true=>
    have:=q8 hz;subst this
    simp only [hz,cond_true]at h
    split at h
    ·rename_i v hv
     obtain⟨⟨cs,Ls,q1,q2,_⟩,jy,_⟩:=c.hp.he _ _ (c.hE _ _ he)
     have sm:=(c.evC hx).1
     rw [LA,← Nat.add_assoc]at sm
     have main:i < xs.length→ ∀ ρ':Nm,(cs.drop (i * t.size)).take t.size=(sR t (xs[i]?.getD (sW t)) nid).map (Cell.conc ρ')→(execOp a.eval ⟨dst,.load T x,ty,pos,after,guard⟩).run P w= .ok (.value (v.conc ρ')) w:=by
      intro hi ρ' hch
      obtain⟨g,cap,hg,hc2⟩:=ahN q1 hi
      have hr:=VW (P:=P) (ρ:=ρ') (base:=VB (ρ id) + i * t.size) (b:=Mv (ρ id)) (w:=w) hv fun j u hj=>by
       rw [← hch]at hj
       rw [hg];simp only [VB,Mv,Nat.zero_add]
       exact hc2 j u hj
      simp [execOp,Instr.loadAt,sm,Instr.sureAddr,hr]
     split at h
     ·rename_i vs hvs
      cases h
      have hi:i < xs.length:=by simpa using dq (decide (i < xs.length)) (by simp)
      obtain⟨l,hl⟩: ∃ l,Ls[i]? =some l:=⟨_,List.getElem?_eq_getElem (by rw [q2.1];exact hi)⟩
      have hd:=q2.2.2.1 i _ l (fun _ _ h=>by cases h) (Tc (d:=sW t) hi) hl
      obtain⟨ρ1,_,_,_,e1,_⟩:=QN t _ _ l nid ρ hd
      have hv1:v.conc ρ1=v.conc ρ:=by
       have:=OL ρ hvs
       have h2:=OL ρ1 hvs
       simp only [V1.conc]
       obtain⟨g,vcs⟩:=v
       cases g with
       |true=>simp only [this,h2]
       |false=>
        match vcs,this,h2 with
        | [],_,_=>rfl
        | [c0],h3,h4=>simp only [w9,List.map_nil]at h3 h4;rw [← h3]at h4;simpa using h4
        |_::_::_,_,_=>rfl
      refine au (u:=v.conc ρ) (w':=w) ?_ (lP.same (v:= .one v) rfl hC c.hp)
      rw [← hv1]
      exact main hi ρ1 e1
     ·cases h
      have hi:i < xs.length:=by simpa using dq (decide (i < xs.length)) (by simp)
      obtain⟨ρ',hX,hm,hp⟩:=c.hp.treeOpen (c.hE _ _ he) (Tc (d:=sW t) hi) (nid:=nid) (fun j hj=>jM j hj)
      refine au (u:=v.conc ρ') (w':=w) ?_ (hC ρ' _ w hX rfl hp)
      obtain⟨⟨cs',Ls',p1,p2,_⟩,_,_⟩:=hp.he id (.tree e t xs (some (i,sR t (xs[i]?.getD (sW t)) nid))) (by simp [aZ,look?])
      have hxs:ρ' id=ρ id:=hX.nm id jy
      rw [hxs]at p1
      obtain⟨_,_,p3⟩:=p2.2.1 i _ rfl
      have Jr:cs'=cs:=aap p1 q1
      subst Jr
      exact main hi ρ' p3
    ·cases h
  ·cases h
 ·cases h
theorem aad(c:Ctx B ρ s a w look ent A){T:TypeId}{x:Operand}{f:Nat}(ho:o.op= .fieldAddr T x f)(h:Yh P look A T x f=some r)(hC:lP B s ρ r o a K):o.wp P a w K Q:=by
 obtain⟨dst,op,ty,pos,after,guard⟩:=o
 simp only at ho;subst ho
 have key: ∀ {d b off:Nat},abX P T f=some d→a.eval x= .pointer (some ⟨b,off,none⟩)→ ∀ w,(execOp a.eval ⟨dst,.fieldAddr T x f,ty,pos,after,guard⟩).run P w= .ok (.value (.pointer (some ⟨b,off + d,none⟩))) w:=by
  intro d b off hd hx w
  unfold abX at hd
  split at hd
  ·rename_i fs hfs
   split at hd
   ·rename_i fd hfd
    split at hd
    ·rename_i i hi
     cases hz:Nat.beq i.size 0 with
     |true=>simp [hz]at hd
     |false=>
      simp [hz]at hd;subst hd
      have Oc:i.size≠0:=fun h0=>by rw [h0]at hz;cases hz
      simp [execOp,Instr.fieldAt,run_underlying hfs,hfd,hx,Instr.sureAddr,fieldPlace,sizeOf,typeInfo,hi,Oc,yo]
    ·cases hd
   ·cases hd
  ·cases hd
 unfold Yh at h
 split at h
 ·rename_i id off d hx hd
  cases h
  have:=(c.evC hx).1
  refine au (key hd this w) (lP.same (v:=one (.ptr id (off + d))) rfl hC c.hp)
 ·rename_i id z i off d hx hd
  cases h
  have:=(c.evC hx).1
  refine au (key hd this w) ?_
  have:=lP.same (v:=one (.el id z i (off + d))) rfl hC c.hp
  simp only [one,SV.conc,V1.conc,LA]at this
  rwa [show i * z + (off + d)=i * z + off + d from (Nat.add_assoc _ _ _).symm,← Nat.add_assoc]at this
 ·cases h
theorem acE{T:TypeId}{off:Nat}{cs:List Cell}{v:V1}(hv:Vn P T off cs=some v):(part T (cs.map (Cell.conc ρ)).toArray off).run P w= .ok (v.conc ρ) w:=by
 unfold Vn at hv
 split at hv
 ·rename_i d i hd hi
  split at hv
  ·rename_i Cr
   cases hb:Nat.ble (off + i.size) cs.length with
   |false=>simp [hb]at hv
   |true=>
    simp [hb]at hv;subst hv
    simp [part,Sem.run_bind,VV hd,Cr,sizeOf,typeInfo,hi,V1.conc,List.extract_eq_take_drop,List.map_take,List.map_drop]
  ·rename_i Cr
   split at hv
   ·rename_i c hc
    cases hv
    simp [part,Sem.run_bind,VV hd,Cr,V1.conc,hc]
   ·cases hv
 ·cases hv
theorem adZ(c:Ctx B ρ s a w look ent A){T:TypeId}{x:Operand}{f:Nat}(ho:o.op= .field T x f)(h:af4 P look A T x f=some r)(hC:lP B s ρ r o a K):o.wp P a w K Q:=by
 obtain⟨dst,op,ty,pos,after,guard⟩:=o
 simp only at ho;subst ho
 unfold af4 at h
 split at h
 ·rename_i cs fs hx hfs
  split at h
  ·rename_i fd hfd
   split at h
   ·rename_i v hv
    cases h
    have:=(c.ev1 hx).1
    refine au (u:=v.conc ρ) (w':=w) ?_ (lP.same (v:= .one v) rfl hC c.hp)
    have hp:=acE (ρ:=ρ) (w:=w) hv
    simp [execOp,Instr.field,run_underlying hfs,hfd,this,V1.conc,asAgg,hp]
   ·cases h
  ·cases h
 ·cases h
theorem abf(c:Ctx B ρ s a w look ent A){x:Operand}(ho:o.op= .nilCheck x)(h:aal look A x=some r)(hC:lP B s ρ r o a K):o.wp P a w K Q:=by
 obtain⟨dst,op,ty,pos,after,guard⟩:=o
 simp only at ho;subst ho
 unfold aal at h
 split at h
 ·cases h
 ·cases h
 ·cases h
 ·rename_i cc hn1 hn2 hn3 hx
  cases h
  have:=(c.evC hx).1
  refine au (u:=cc.conc ρ) (w':=w) ?_ (lP.same (v:=one cc) rfl hC c.hp)
  cases cc with
  |val v=>exact(hn1 v rfl).elim
  |ref id=>exact(hn2 id rfl).elim
  |vw id z k=>exact(hn3 id z k rfl).elim
  |_=>simp [execOp,this,Cell.conc]
 ·cases h
theorem Ll{k:IntKind}{i:Int}:(asIntOf (.int k i)).run P w= .ok (k,i) w:=rfl
theorem aag(c:Ctx B ρ s a w look ent A){T:TypeId}{x ix:Operand}(ho:o.op= .indexAddr T x ix)(h:Yl P look ent A T x ix=some r)(dq: ∀ b∈r.nd,b=true)(hC:lP B s ρ r o a K):o.wp P a w K Q:=by
 obtain⟨dst,op,ty,pos,after,guard⟩:=o
 simp only at ho;subst ho
 unfold Yl at h
 split at h
 ·rename_i id i hx hi
  split at h
  ·rename_i own e t xs he
   cases ii:yO P T t with
   |false=>simp [ii]at h
   |true=>
    simp [ii]at h;subst h
    unfold yO at ii
    split at ii
    ·rename_i e' hT
     split at ii
     ·rename_i inf vr
      have FG:=q8 ii
      have h0:0≤i:=by simpa using dq (decide (0≤i)) (by simp)
      have h1:i < xs.length:=by simpa using dq (decide (i < xs.length)) (by simp)
      have sm:=(c.evC hx).1
      obtain⟨k,hiv⟩:=c.evI hi
      obtain⟨hh,_,_⟩:=c.hp.he _ _ (c.hE _ _ he)
      have jw: ∃ b off cap,ρ id= .slice (some ⟨b,off,none⟩) xs.length cap:=by
       cases own with
       |false=>
        rcases hh with⟨_,hn⟩ | ⟨b,off,cap,arr,T',fz,h4,_⟩
        ·rw [hn]at h1;simp at h1;omega
        ·exact⟨b,off,cap,h4⟩
       |true=>
        obtain⟨cs,h4,_⟩:=hh
        rcases h4.2 with⟨_,hn⟩ | ⟨g,cap,cur,hv,_⟩
        ·rw [hn]at h1;simp at h1;omega
        ·exact⟨g,0,cap,hv⟩
      obtain⟨b,off,cap,hv⟩:=jw
      have Tg:=lP.same (v:=one (.el id t.size i.toNat 0)) rfl hC c.hp
      simp only [one,SV.conc,V1.conc,LA,hv,Mv,VB,Nat.add_zero]at Tg
      refine au (w':=w) ?_ Tg
      simp only [Cell.conc,hv]at sm
      simp [execOp,Instr.indexAt,sm,hiv,run_underlying hT,Ll,h0,h1,sizeOf,typeInfo,vr,yo,FG]
     ·cases ii
    ·cases ii
  ·rename_i e t xs he
   cases ii:yO P T t with
   |false=>simp [ii]at h
   |true=>
    simp [ii]at h;subst h
    unfold yO at ii
    split at ii
    ·rename_i e' hT
     split at ii
     ·rename_i inf vr
      have FG:=q8 ii
      have h0:0≤i:=by simpa using dq (decide (0≤i)) (by simp)
      have h1:i < xs.length:=by simpa using dq (decide (i < xs.length)) (by simp)
      have sm:=(c.evC hx).1
      obtain⟨k,hiv⟩:=c.evI hi
      obtain⟨hh,_,_⟩:=c.hp.he _ _ (c.hE _ _ he)
      have jw: ∃ b off cap,ρ id= .slice (some ⟨b,off,none⟩) xs.length cap:=by
       obtain⟨cs,Ls,h4,_⟩:=hh
       rcases h4.2 with⟨_,hn⟩ | ⟨g,cap,cur,hv,_⟩
       ·rw [hn]at h1;simp at h1;omega
       ·exact⟨g,0,cap,hv⟩
      obtain⟨b,off,cap,hv⟩:=jw
      have Tg:=lP.same (v:=one (.el id t.size i.toNat 0)) rfl hC c.hp
      simp only [one,SV.conc,V1.conc,LA,hv,Mv,VB,Nat.add_zero]at Tg
      refine au (w':=w) ?_ Tg
      simp only [Cell.conc,hv]at sm
      simp [execOp,Instr.indexAt,sm,hiv,run_underlying hT,Ll,h0,h1,sizeOf,typeInfo,vr,yo,FG]
     ·cases ii
    ·cases ii
  ·rename_i e t xs he
   cases ii:yO P T t with
   |false=>simp [ii]at h
   |true=>
    simp [ii]at h;subst h
    unfold yO at ii
    split at ii
    ·rename_i e' hT
     split at ii
     ·rename_i inf vr
      have FG:=q8 ii
      have h0:0≤i:=by simpa using dq (decide (0≤i)) (by simp)
      have h1:i < xs.length:=by simpa using dq (decide (i < xs.length)) (by simp)
      have sm:=(c.evC hx).1
      obtain⟨k,hiv⟩:=c.evI hi
      obtain⟨hh,_,_⟩:=c.hp.he _ _ (c.hE _ _ he)
      have jw: ∃ b off cap,ρ id= .slice (some ⟨b,off,none⟩) xs.length cap:=by
       obtain⟨_,hh,_⟩:=hh
       rcases hh with⟨_,hn⟩ | ⟨b,off,cap,arr,T',fz,h4,_⟩
       ·rw [hn]at h1;simp at h1;omega
       ·exact⟨b,off,cap,h4⟩
      obtain⟨b,off,cap,hv⟩:=jw
      have Tg:=lP.same (v:=one (.el id t.size i.toNat 0)) rfl hC c.hp
      simp only [one,SV.conc,V1.conc,LA,hv,Mv,VB,Nat.add_zero]at Tg
      refine au (w':=w) ?_ Tg
      simp only [Cell.conc,hv]at sm
      simp [execOp,Instr.indexAt,sm,hiv,run_underlying hT,Ll,h0,h1,sizeOf,typeInfo,vr,yo,FG]
     ·cases ii
    ·cases ii
  ·cases h
 ·rename_i id off i hx hi
  split at h
  ·rename_i n e hT
   split at h
   ·rename_i inf vr
    cases h
    have h0:0≤i:=by simpa using dq (decide (0≤i)) (by simp)
    have h1:i < n:=by simpa using dq (decide (i < n)) (by simp)
    have sm:=(c.evC hx).1
    obtain⟨k,hiv⟩:=c.evI hi
    refine au (w':=w) ?_ (lP.same (v:=one (.ptr id (off + i.toNat * inf.size))) rfl hC c.hp)
    simp only [Cell.conc]at sm
    simp [execOp,Instr.indexAt,sm,hiv,run_underlying hT,Ll,h0,h1,sizeOf,typeInfo,vr,yo,Instr.sureAddr,one,SV.conc,V1.conc,Cell.conc]
   ·cases h
  ·cases h
 ·cases h
theorem ad8(c:Ctx B ρ s a w look ent A){T:TypeId}{x ix:Operand}(ho:o.op= .index T x ix)(h:agf P look A T x ix=some r)(dq: ∀ b∈r.nd,b=true)(hC:lP B s ρ r o a K):o.wp P a w K Q:=by
 obtain⟨dst,op,ty,pos,after,guard⟩:=o
 simp only at ho;subst ho
 unfold agf at h
 split at h
 ·rename_i str i hx hi hT
  cases h
  have h0:0≤i:=by simpa using dq (decide (0≤i)) (by simp)
  have h1:i < str.size:=by simpa using dq (decide (i < str.size)) (by simp)
  have sm:=(c.evC hx).1
  obtain⟨k,hiv⟩:=c.evI hi
  refine au (w':=w) ?_ (lP.same (v:=one (.val (.int .u8 (str[i.toNat]?.getD 0).toNat))) rfl hC c.hp)
  simp only [Cell.conc]at sm
  have gm:i.toNat < str.size:=by omega
  simp [execOp,Instr.index,sm,hiv,run_underlying hT,Ll,h0,gm,one,SV.conc,V1.conc,Cell.conc]
 ·cases h
theorem agj(c:Ctx B ρ s a w look ent A){cl:Call}{x:Operand}(ho:o.op= .call cl)(hb:cl.callee= .builtin .len)(zo:cl.args.toList= [x])(h:akC P look ent A cl.argTypes x=some r)(hC:lP B s ρ r o a K):o.wp P a w K Q:=by
 obtain⟨dst,op,ty,pos,after,guard⟩:=o
 simp only at ho;subst ho
 unfold akC at h
 split at h
 ·rename_i id hx
  split at h
  ·rename_i own e t xs he
   cases ii:OQ P cl.argTypes[0]? with
   |false=>simp [ii]at h
   |true=>
    simp only [ii,cond_true]at h
    cases h
    have sm:=(c.evC hx).1
    obtain⟨hh,_,_⟩:=c.hp.he _ _ (c.hE _ _ he)
    have jw: ∃ b cap,ρ id= .slice b xs.length cap:=by
     cases own with
     |false=>
      rcases hh with⟨h4,hn⟩ | ⟨b,off,cap,arr,T',fz,h4,_⟩
      ·obtain⟨b0,hb0⟩:=Fy h4;rw [hn];exact⟨b0,0,hb0⟩
      ·exact⟨_,_,h4⟩
     |true=>
      obtain⟨cs,h4,_⟩:=hh
      rcases h4.2 with⟨hv,hn⟩ | ⟨g,cap,cur,hv,_⟩
      ·obtain⟨b0,hb0⟩:=Fy hv;rw [hn];exact⟨b0,0,hb0⟩
      ·exact⟨_,_,hv⟩
    obtain⟨b,cap,hv⟩:=jw
    refine au (w':=w) ?_ (lP.same (v:=one (.val (.int .i64 xs.length))) rfl hC c.hp)
    simp only [Cell.conc,hv]at sm
    have Cr:cl.args= #[x]:=by rw [← w7 (xs:=cl.args),zo]
    unfold OQ at ii
    split at ii
    ·rename_i t0 ht0
     split at ii
     ·rename_i e0 hT
      simp [execOp,resolve,hb,invoke,builtin,Cr,Builtin.len_,sm,one,SV.conc,V1.conc,Cell.conc,goInt,ht0,run_underlying hT]
     ·cases ii
    ·cases ii
  ·rename_i e t xs ho he
   cases ii:OQ P cl.argTypes[0]? with
   |false=>simp [ii]at h
   |true=>
    simp only [ii,cond_true]at h
    cases h
    have sm:=(c.evC hx).1
    obtain⟨hh,_,_⟩:=c.hp.he _ _ (c.hE _ _ he)
    have jw: ∃ b cap,ρ id= .slice b xs.length cap:=by
     obtain⟨cs,Ls,h4,_⟩:=hh
     rcases h4.2 with⟨hv,hn⟩ | ⟨g,cap,cur,hv,_⟩
     ·obtain⟨b0,hb0⟩:=Fy hv;rw [hn];exact⟨b0,0,hb0⟩
     ·exact⟨_,_,hv⟩
    obtain⟨b,cap,hv⟩:=jw
    refine au (w':=w) ?_ (lP.same (v:=one (.val (.int .i64 xs.length))) rfl hC c.hp)
    simp only [Cell.conc,hv]at sm
    have Cr:cl.args= #[x]:=by rw [← w7 (xs:=cl.args),zo]
    unfold OQ at ii
    split at ii
    ·rename_i t0 ht0
     split at ii
     ·rename_i e0 hT
      simp [execOp,resolve,hb,invoke,builtin,Cr,Builtin.len_,sm,one,SV.conc,V1.conc,Cell.conc,goInt,ht0,run_underlying hT]
     ·cases ii
    ·cases ii
  ·rename_i e t xs he
   cases ii:OQ P cl.argTypes[0]? with
   |false=>simp [ii]at h
   |true=>
    simp only [ii,cond_true]at h
    cases h
    have sm:=(c.evC hx).1
    obtain⟨hh,_,_⟩:=c.hp.he _ _ (c.hE _ _ he)
    have jw: ∃ b cap,ρ id= .slice b xs.length cap:=by
     obtain⟨_,hh,_⟩:=hh
     rcases hh with⟨h4,hn⟩ | ⟨b,off,cap,arr,T',fz,h4,_⟩
     ·obtain⟨b0,hb0⟩:=Fy h4;rw [hn];exact⟨b0,0,hb0⟩
     ·exact⟨_,_,h4⟩
    obtain⟨b,cap,hv⟩:=jw
    refine au (w':=w) ?_ (lP.same (v:=one (.val (.int .i64 xs.length))) rfl hC c.hp)
    simp only [Cell.conc,hv]at sm
    have Cr:cl.args= #[x]:=by rw [← w7 (xs:=cl.args),zo]
    unfold OQ at ii
    split at ii
    ·rename_i t0 ht0
     split at ii
     ·rename_i e0 hT
      simp [execOp,resolve,hb,invoke,builtin,Cr,Builtin.len_,sm,one,SV.conc,V1.conc,Cell.conc,goInt,ht0,run_underlying hT]
     ·cases ii
    ·cases ii
  ·cases h
 ·cases h
theorem afX(c:Ctx B ρ s a w look ent A){bop:BinOp}{T T':TypeId}{x y:Operand}(ho:o.op= .binOp bop T x y T')(h:akm look A bop x y=some r)(dq: ∀ b∈r.nd,b=true)(hC:lP B s ρ r o a K):o.wp P a w K Q:=by
 obtain⟨dst,op,ty,pos,after,guard⟩:=o
 simp only at ho;subst ho
 unfold akm at h
 split at h
 ·rename_i k i k' j hx hy
  split at h
  ·rename_i hk
   subst hk
   cases h
   have hz:j≠0:=by simpa using dq (decide (j≠0)) (by simp)
   have sm:=(c.evC hx).1
   have Ip:=(c.evC hy).1
   simp only [Cell.conc]at sm Ip
   refine au (w':=w) ?_ (lP.same (v:=one (.val (.int k (k.wrap (i.tdiv j))))) rfl hC c.hp)
   simp [execOp,eqGuard,binOp,sm,Ip,Op.intDiv,hz,one,SV.conc,V1.conc,Cell.conc]
  ·cases h
 ·rename_i k i k' j hx hy
  split at h
  ·rename_i hk
   subst hk
   cases h
   have hz:j≠0:=by simpa using dq (decide (j≠0)) (by simp)
   have sm:=(c.evC hx).1
   have Ip:=(c.evC hy).1
   simp only [Cell.conc]at sm Ip
   refine au (w':=w) ?_ (lP.same (v:=one (.val (.int k (i.tmod j)))) rfl hC c.hp)
   simp [execOp,eqGuard,binOp,sm,Ip,Op.intDiv,hz,one,SV.conc,V1.conc,Cell.conc]
  ·cases h
 ·rename_i k i k' j hx hy
  cases h
  have hz:0≤j:=by simpa using dq (decide (0≤j)) (by simp)
  have sm:=(c.evC hx).1
  have Ip:=(c.evC hy).1
  simp only [Cell.conc]at sm Ip
  refine au (w':=w) ?_ (lP.same (v:=one (.val (.int k (k.wrap (i * 2 ^ (min j.toNat k.bits)))))) rfl hC c.hp)
  simp [execOp,eqGuard,binOp,sm,Ip,Op.shift,show ¬ j < 0 by omega,one,SV.conc,V1.conc,Cell.conc]
 ·rename_i k i k' j hx hy
  cases h
  have hz:0≤j:=by simpa using dq (decide (0≤j)) (by simp)
  have sm:=(c.evC hx).1
  have Ip:=(c.evC hy).1
  simp only [Cell.conc]at sm Ip
  refine au (w':=w) ?_ (lP.same (v:=one (.val (.int k (i.fdiv (2 ^ (min j.toNat k.bits)))))) rfl hC c.hp)
  simp [execOp,eqGuard,binOp,sm,Ip,Op.shift,show ¬ j < 0 by omega,one,SV.conc,V1.conc,Cell.conc]
 ·cases h
end
end Go.SX
namespace Go.SX
open Go.RowKit
section
variable{P:Program}{tr:Bool}{s:St}{look:Nat→Option SS}{ent:Nat→Option Entry}{A:List (Nat×Bool)}{nid:Nat}{o:Oper}{r:Raw}{B:Base}{ρ:Nm}{a:Act}{w:World}{K:Act→World→Prop}{Q:Exit→Act→World→Prop}
theorem uV(t ty e:TypeId)(i:TypeInfo)(z:Value)(size bytes:Nat)(ht:P.underlying t=some (.slice e))(hi:P.info? e=some i)(hz:i.zero=some z)
  (hsize:i.size=size) (hby:i.bytes=bytes) (hzs:z.cells.size=size) (FG:0 < size)
  (v:Value) (n:Nat) (xs:List Value) (pT:CC w e size v n xs)
  (a:Addr) (m c:Nat) (news:List Value) (hl:news.length=m * size) (hnews: ∀ j u,news[j]? =some u→w.cell? (a.add j)=some u) (h1: ∀ u∈news,u.oneCell'=true)
  (h63:n + m≤maxLen) (hbytes:(n + m) * bytes≤140737488355328):
  ∃ v' w',(Builtin.append_ #[t,t] ty #[v,.slice (some a) m c]).run P w= .ok v' w'∧CC w' e size v' (n + m) (xs++news)∧Chg w w' (fun k=>k∈fB v)∧
   (∀ b∈fB v',w.heap.size≤b∨b∈fB v):=by
 rcases ahj pT with⟨hz0,rfl,rfl⟩ | ⟨pT,g0,cap0,hv0,hc0⟩
 ·by_cases hm:m=0
  ·subst hm
   have hn:news= []:=List.length_eq_zero_iff.1 (by rw [hl,Nat.zero_mul])
   subst hn
   rcases hz0 with rfl | ⟨b,rfl⟩
   ·obtain⟨v',w',hr,h2,h3,h4⟩:=run_append_own (P:=P) w 0 t ty e i z size bytes ht hi hz hsize hby hzs FG (.slice none 0 0) 0 [] (World.ownsRow_nil _ _ _ _) a 0 c [] hl hnews h1 h63 hbytes (Nat.zero_le _)
    refine⟨v',w',hr,LU h2,⟨h3.os,h3.tape,h3.output,h3.size,fun k hk _=>h3.block k hk (by simp [Value.ownBlock])⟩,fun b hb=> ?_⟩
    rw [h4.2 ⟨rfl,rfl⟩]at hb;cases hb
   ·refine⟨_,w,?_,by simpa using pT,Chg.refl _ _,fun b hb=> .inr hb⟩
    have hfc:=run_firstCells_some (P:=P) w i.size 0 a 0 c [] (by simp) hnews
    simp [Builtin.append_,run_underlying ht,sizeOf,typeInfo,hi,Builtin.lenOf,hfc,storeCells]
  ·rcases hz0 with rfl | ⟨b,rfl⟩
   ·obtain⟨v',w',hr,h2,h3,_⟩:=run_append_own (P:=P) w w.heap.size t ty e i z size bytes ht hi hz hsize hby hzs FG (.slice none 0 0) 0 [] (World.ownsRow_nil _ _ _ _) a m c news hl hnews h1 h63 hbytes (Nat.le_refl _)
    refine⟨v',w',hr,LU h2,⟨h3.os,h3.tape,h3.output,h3.size,fun k hk _=>h3.block k hk (by simp [Value.ownBlock])⟩,fun b' hb'=> ?_⟩
    rcases h2.2 with⟨rfl,_⟩ | ⟨g,cap,cur,rfl,hg,_⟩
    ·cases hb'
    ·have:=ND hb'
     subst this;exact .inl hg
   ·obtain⟨v',w',hr,h2,h3⟩:=run_append_arg_grows (P:=P) w t ty e i z size bytes ht hi hz hsize hby hzs FG b 0 0 [] (by simp) (fun j u hj=>by simp at hj) a m c news hl hnews (by omega) h63 hbytes
    refine⟨v',w',hr,LU h2,⟨h3.os,h3.tape,h3.output,h3.size,fun k hk _=>h3.block k hk (by simp)⟩,fun b' hb'=> ?_⟩
    rcases h2.2 with⟨rfl,_⟩ | ⟨g,cap,cur,rfl,hg,_⟩
    ·cases hb'
    ·have:=ND hb'
     subst this;exact .inl hg
 obtain⟨v',w',hr,h2,h3,h4⟩:=run_append_own (P:=P) w 0 t ty e i z size bytes ht hi hz hsize hby hzs FG v n xs pT a m c news hl hnews h1 h63 hbytes (Nat.zero_le _)
 refine⟨v',w',hr,LU h2,Chg.own h3 (fun g hg=>by rw [hv0]at hg ⊢;simp only [Value.ownBlock,q9]at hg;rw [sn hc0,← hg];simp),?_⟩
 subst hsize;subst hby
 have hsmall:n + m≤9223372036854775807:=by simp only [maxLen]at h63;omega
 rcases pT.2 with⟨rfl,rfl⟩ | ⟨g,cap,cur,rfl,hbg,hg,hnc,TZ,Jr,htake⟩
 ·cases hv0
 ·by_cases hroom:n + m≤cap
  ·obtain⟨_,hr',_⟩:=run_append_fits (P:=P) w 0 t ty e i i.size ht hi rfl g n cap xs pT a m c news hl hnews h1 hroom
   rw [hr']at hr
   cases hr
   intro b hb;exact .inr hb
  ·have holds: ∀ j u,xs[j]? =some u→w.cell? ((⟨g,0,none⟩:Addr).add j)=some u:=pT.cells (g:=g) rfl
   have hr':=run_append_grow (P:=P) w t ty e i z ht hi hz ⟨g,0,none⟩ n cap xs pT.1 holds a m c news hl hnews (by omega) (by omega) (growslice_fits (by omega) hbytes)
   rw [hr']at hr
   cases hr
   intro b hb
   left
   simp only [fB]at hb
   revert hb
   generalize Nat.beq _ 0=q
   cases q with
   |true=>intro hb;cases hb
   |false=>intro hb;simp only [cond_false,j7]at hb;subst hb;exact Nat.le_refl _
theorem Fm(t ty e:TypeId)(i:TypeInfo)(size:Nat)(ht:P.underlying t=some (.slice e))(hi:P.info? e=some i)(v:Value)(n:Nat)(xs:List Value)(pT:CC w e size v n xs):
  (Builtin.append_ #[t,t] ty #[v,.slice none 0 0]).run P w= .ok v w:=by
 rcases ahj pT with⟨hz,rfl,rfl⟩ | ⟨pT,_⟩
 ·rcases hz with rfl | ⟨b,rfl⟩
  ·exact run_append_owned_none (P:=P) w 0 t ty e i size ht hi _ 0 [] (World.ownsRow_nil _ _ _ _)
  ·simp [Builtin.append_,run_underlying ht,sizeOf,typeInfo,hi,Builtin.lenOf,Builtin.firstCells,storeCells]
 ·exact run_append_owned_none (P:=P) w 0 t ty e i size ht hi v n xs pT
theorem jY.cell_one{H:Nat→Option Obj}{t:CTy}{cs:List Value}{xs:List (E t)}(h:jY H t cs xs): ∀ u∈cs,u.oneCell'=true:=by
 intro u hu
 obtain⟨j,hj⟩:=List.mem_iff_getElem?.1 hu
 have gm:=(z6.1 hj).1
 have hp:=uW t
 rw [h.1]at gm
 have hi:j / t.size < xs.length:=Nat.div_lt_of_lt_mul (by rw [Nat.mul_comm];exact gm)
 refine Rep.one t _ _ (h.2 _ _ (List.getElem?_eq_getElem hi)) u ?_
 refine List.mem_iff_getElem?.2 ⟨j % t.size,?_⟩
 rw [List.getElem?_take,if_pos (Nat.mod_lt _ hp),List.getElem?_drop,Nat.mul_comm,Nat.div_add_mod]
 exact hj
theorem Na{own:Bool}{id:Nat}{e:TypeId}{t:CTy}{xs:List (E t)}(h:(Entry.row own e t xs).holds B ρ w id)(hf: ∀ b o,ρ.mem b=some o→w.heap[b]? =some o):
  (XG (ρ id)∧xs= [])∨ ∃ b off cap news,ρ id= .slice (some ⟨b,off,none⟩) xs.length cap∧jY ρ.mem t news xs∧xs.length≤cap∧cap≤maxLen∧
   (∀ j u,news[j]? =some u→w.cell? ((⟨b,off,none⟩:Addr).add j)=some u):=by
 cases own with
 |false=>
  rcases GO.cells hf h with h | ⟨b,off,cap,arr,T,fz,h1,h2,h3,h4,_,h5⟩
  ·exact .inl h
  ·right
   rcases h5 with rfl | h5
   ·exact⟨b,off,cap,[],h1,jY.nil _ _,h2,h3,fun j u hj=>by simp at hj⟩
   ·refine⟨b,off,cap,_,h1,h5,h2,h3,fun j u hj=> ?_⟩
    rw [yo,wQ h4]
    rw [List.getElem?_take]at hj
    split at hj
    ·simpa using hj
    ·cases hj
 |true=>
  obtain⟨cs,h1,h2,_⟩:=h
  rcases h1.2 with⟨hv,hn⟩ | ⟨g,cap,cur,hv,_,hg,Gt,TZ,FG,Ub⟩
  ·exact .inl ⟨hv,List.length_eq_zero_iff.1 hn⟩
  ·refine .inr ⟨g,0,cap,cs,hv,h2,Gt,TZ,fun j u hj=> ?_⟩
   rw [yo,wQ hg]
   rw [← Ub,List.getElem?_take]at hj
   split at hj
   ·simpa using hj
   ·cases hj
theorem xQ{n:Nat}(h:n≤9223372036854775807):n≤maxLen:=by simp only [maxLen];omega
theorem acM(c:Ctx B ρ s a w look ent A){cl:Call}{x y:Operand}(ho:o.op= .call cl)(hb:cl.callee= .builtin .append)(zo:cl.args.toList= [x,y])(h:adP P look ent A nid cl.argTypes x y=some r)(jM: ∀ i∈r.new,s.used i=false)(dq: ∀ b∈r.nd,b=true)(hC:lP B s ρ r o a K):o.wp P a w K Q:=by
 obtain⟨dst,op,ty,pos,after,guard⟩:=o
 simp only at ho;subst ho
 have Cr:cl.args= #[x,y]:=by rw [← w7 (xs:=cl.args),zo]
 unfold adP at h
 split at h
 ·rename_i id jd t1 t2 hx hy hts
  split at h
  ·rename_i e t xs own e2 t' ys he1 he2
   split at h
   ·rename_i e' inf hT vr
    split at h
    ·rename_i z hz
     split at h
     ·rename_i ht
      subst ht
      cases ii:(Nat.beq t1 t2&&Nat.beq e' e&&Nat.beq inf.size t'.size&&Nat.beq z.cells.size t'.size)with
      |false=>simp [ii]at h
      |true=>
       simp only [ii,cond_true]at h
       cases h
       simp only [w3]at ii
       obtain⟨⟨⟨k1,k2⟩,k3⟩,k4⟩:=ii
       have k1:=q8 k1
       have k2:=q8 k2
       have k3:=q8 k3
       have k4:=q8 k4
       subst k1;subst k2
       have n1:xs.length + ys.length≤9223372036854775807:=by simpa using dq (decide (xs.length + ys.length≤9223372036854775807)) (by simp)
       have n2:(xs.length + ys.length) * inf.bytes≤140737488355328:=by simpa using dq (decide ((xs.length + ys.length) * inf.bytes≤140737488355328)) (by simp)
       have hat:cl.argTypes= #[t1,t1]:=by rw [← w7 (xs:=cl.argTypes),hts]
       have sm:=(c.evC hx).1
       have Ip:=(c.evC hy).1
       simp only [Cell.conc]at sm Ip
       have zp:=c.hE _ _ he1
       obtain⟨⟨cs,h1,h2,h3⟩,jy,_⟩:=c.hp.he _ _ zp
       obtain⟨hh2,_,_⟩:=c.hp.he _ _ (c.hE _ _ he2)
       have OE:s.used nid=false:=jM nid (by simp)
       have fin: ∀ v' w' cs',(Builtin.append_ #[t1,t1] ty #[ρ id,ρ jd]).run P w= .ok v' w'→CC w' e' t'.size v' (xs++ys).length cs'→jY ρ.mem t' cs' (xs++ys)→Chg w w' (fun k=>k∈fB (ρ id))→(∀ b∈fB v',w.heap.size≤b∨b∈fB (ρ id))→
         Oper.wp P ⟨dst,.call cl,ty,pos,after,guard⟩ a w K Q:=by
        intro v' w' cs' hr pT qE hg hbl
        obtain⟨hX,hp⟩:=c.hp.rowTo zp OE hg pT qE hbl
        refine au (u:=v') (w':=w') ?_ (hC _ v' w' hX ?_ hp)
        ·simp [execOp,resolve,hb,invoke,builtin,Cr,sm,Ip,hat,hr]
        ·simp only [one,SV.conc,V1.conc,Cell.conc]
         rw [fy _ _ (sX pT)]
       rcases Na hh2 c.hp.hf.dat with⟨hv,hn⟩ | ⟨b,off,cap,news,hv,qE,Gt,TZ,hcells⟩
       ·subst hn
        rcases hv with hv | ⟨b,hv⟩
        ·have hr:=Fm (P:=P) (w:=w) t1 ty e' inf t'.size hT vr (ρ id) xs.length cs h1
         rw [← hv]at hr
         exact fin _ _ cs hr (by simpa using h1) (by simpa using h2) (Chg.refl _ _) fun b hb=> .inr hb
        ·obtain⟨v',w',hr,g1,g2,g3⟩:=uV (P:=P) t1 ty e' inf z t'.size inf.bytes hT vr hz k3 rfl k4 (uW t') (ρ id) xs.length cs h1 b 0 0 [] (by simp) (fun j u hj=>by simp at hj) (fun u hu=>by simp at hu) (xQ (by simpa using n1)) (by simpa using n2)
         rw [← hv]at hr
         exact fin _ _ _ hr (by simpa using g1) (by simpa using h2) g2 g3
       ·obtain⟨v',w',hr,g1,g2,g3⟩:=uV (P:=P) t1 ty e' inf z t'.size inf.bytes hT vr hz k3 rfl k4 (uW t') (ρ id) xs.length cs h1 ⟨b,off,none⟩ ys.length cap news qE.1 hcells qE.cell_one (xQ n1) n2
        rw [← hv]at hr
        refine fin _ _ _ hr (by rw [w4];exact g1) (h2.append qE) g2 g3
     ·cases h
    ·cases h
   ·cases h
  ·rename_i e t xs e2 t' ys he1 he2
   split at h
   ·rename_i e' inf hT vr
    split at h
    ·rename_i z hz
     split at h
     ·rename_i ht
      subst ht
      cases ii:(Nat.beq t1 t2&&Nat.beq e' e&&Nat.beq inf.size t'.size&&Nat.beq z.cells.size t'.size&& !Nat.beq id jd)with
      |false=>simp [ii]at h
      |true=>
       simp only [ii,cond_true]at h
       cases h
       simp only [w3,Bool.not_eq_true']at ii
       obtain⟨⟨⟨⟨k1,k2⟩,k3⟩,k4⟩,k5⟩:=ii
       have k1:=q8 k1
       have k2:=q8 k2
       have k3:=q8 k3
       have k4:=q8 k4
       subst k1;subst k2
       have Oc:id≠jd:=fun hh=>by subst hh;simp at k5
       have n1:xs.length + ys.length≤9223372036854775807:=by simpa using dq (decide (xs.length + ys.length≤9223372036854775807)) (by simp)
       have n2:(xs.length + ys.length) * inf.bytes≤140737488355328:=by simpa using dq (decide ((xs.length + ys.length) * inf.bytes≤140737488355328)) (by simp)
       have hat:cl.argTypes= #[t1,t1]:=by rw [← w7 (xs:=cl.argTypes),hts]
       have sm:=(c.evC hx).1
       have Ip:=(c.evC hy).1
       simp only [Cell.conc]at sm Ip
       have zp:=c.hE _ _ he1
       have hent2:=c.hE _ _ he2
       obtain⟨⟨cs,Ls,h1,_⟩,jy,_⟩:=c.hp.he _ _ zp
       obtain⟨⟨ds,Ms,g1,g2,_⟩,hjd,_⟩:=c.hp.he _ _ hent2
       have OE:s.used nid=false:=jM nid (by simp)
       have fin: ∀ v' w',(Builtin.append_ #[t1,t1] ty #[ρ id,ρ jd]).run P w= .ok v' w'→CC w' e' t'.size v' (xs++ys).length (cs++ds)→Chg w w' (fun k=>k∈fB (ρ id))→(∀ b∈fB v',w.heap.size≤b∨b∈fB (ρ id))→
         Oper.wp P ⟨dst,.call cl,ty,pos,after,guard⟩ a w K Q:=by
        intro v' w' hr pT hg hbl
        obtain⟨ρ',hv,hX,hp⟩:=c.hp.treeAppend zp hent2 Oc OE hg h1 g1 pT hbl
        refine au (u:=v') (w':=w') ?_ (hC ρ' v' w' hX ?_ hp)
        ·simp [execOp,resolve,hb,invoke,builtin,Cr,sm,Ip,hat,hr]
        ·simp only [one,SV.conc,V1.conc,Cell.conc]
         exact hv.symm
       rcases g1.2 with⟨hv,hn⟩ | ⟨g,cap,cur,hv,hc0,hg,Gt,TZ,FG,Ub⟩
       ·have hds:ds= []:=List.length_eq_zero_iff.1 (by rw [g1.1,hn,Nat.zero_mul])
        have hys:ys= []:=List.length_eq_zero_iff.1 hn
        rcases hv with hv | ⟨b,hv⟩
        ·have hr:=Fm (P:=P) (w:=w) t1 ty e' inf t'.size hT vr (ρ id) xs.length cs h1
         rw [← hv]at hr
         exact fin _ _ hr (by subst hds hys;simpa using h1) (Chg.refl _ _) fun b hb=> .inr hb
        ·obtain⟨v',w',hr,u1,u2,u3⟩:=uV (P:=P) t1 ty e' inf z t'.size inf.bytes hT vr hz k3 rfl k4 (uW t') (ρ id) xs.length cs h1 b 0 0 [] (by simp) (fun j u hj=>by simp at hj) (fun u hu=>by simp at hu) (xQ (by omega)) (by rw [hn]at n2;exact n2)
         rw [← hv]at hr
         exact fin _ _ hr (by subst hds hys;simpa using u1) u2 u3
       ·obtain⟨v',w',hr,u1,u2,u3⟩:=uV (P:=P) t1 ty e' inf z t'.size inf.bytes hT vr hz k3 rfl k4 (uW t') (ρ id) xs.length cs h1 ⟨g,0,none⟩ ys.length cap ds g1.1
         (fun j u hj=>by
          rw [yo,wQ hg]
          rw [← Ub,List.getElem?_take]at hj
          split at hj
          ·simpa using hj
          ·cases hj) (g2.one g1.1) (xQ n1) n2
        rw [← hv]at hr
        exact fin _ _ hr (by rw [w4];exact u1) u2 u3
     ·cases h
    ·cases h
   ·cases h
  ·cases h
 ·rename_i id b c0 t1 t2 hx hy hts
  split at h
  ·rename_i e t xs he1
   split at h
   ·rename_i e' inf hT vr
    split at h
    ·rename_i z hz
     cases ii:(Nat.beq t1 t2&&Nat.beq e' e&&Nat.beq inf.size t.size&&Nat.beq z.cells.size t.size)with
     |false=>simp [ii]at h
     |true=>
      simp only [ii,cond_true]at h
      cases h
      simp only [w3]at ii
      obtain⟨⟨⟨k1,k2⟩,k3⟩,k4⟩:=ii
      have k1:=q8 k1
      have k2:=q8 k2
      have k3:=q8 k3
      have k4:=q8 k4
      subst k1;subst k2
      have n1:xs.length≤9223372036854775807:=by simpa using dq (decide (xs.length≤9223372036854775807)) (by simp)
      have n2:xs.length * inf.bytes≤140737488355328:=by simpa using dq (decide (xs.length * inf.bytes≤140737488355328)) (by simp)
      have hat:cl.argTypes= #[t1,t1]:=by rw [← w7 (xs:=cl.argTypes),hts]
      have sm:=(c.evC hx).1
      have Ip:=(c.evC hy).1
      simp only [Cell.conc]at sm Ip
      have zp:=c.hE _ _ he1
      obtain⟨⟨cs,h1,h2,h3⟩,jy,_⟩:=c.hp.he _ _ zp
      have OE:s.used nid=false:=jM nid (by simp)
      obtain⟨v',w',hr,g1,g2,g3⟩:=uV (P:=P) t1 ty e' inf z t.size inf.bytes hT vr hz k3 rfl k4 (uW t) (ρ id) xs.length cs h1 b 0 c0 [] (by simp) (fun j u hj=>by simp at hj) (fun u hu=>by simp at hu) (xQ (by simpa using n1)) (by simpa using n2)
      have pT:CC w' e' t.size v' xs.length cs:=by simpa using g1
      obtain⟨hX,hp⟩:=c.hp.rowTo zp OE g2 pT h2 g3
      refine au (u:=v') (w':=w') ?_ (hC _ v' w' hX ?_ hp)
      ·simp [execOp,resolve,hb,invoke,builtin,Cr,sm,Ip,hat,hr]
      ·simp only [one,SV.conc,V1.conc,Cell.conc]
       rw [fy _ _ (sX pT)]
    ·cases h
   ·cases h
  ·cases h
 ·rename_i id t1 t2 hx hy hts
  split at h
  ·rename_i e t xs he1
   split at h
   ·rename_i e' inf hT vr
    split at h
    ·rename_i z hz
     cases ii:(Nat.beq t1 t2&&Nat.beq e' e&&Nat.beq inf.size t.size&&Nat.beq z.cells.size t.size)with
     |false=>simp [ii]at h
     |true=>
      simp only [ii,cond_true]at h
      cases h
      simp only [w3]at ii
      obtain⟨⟨⟨k1,k2⟩,k3⟩,k4⟩:=ii
      have k1:=q8 k1
      have k2:=q8 k2
      have k3:=q8 k3
      have k4:=q8 k4
      subst k1;subst k2
      have n1:xs.length≤9223372036854775807:=by simpa using dq (decide (xs.length≤9223372036854775807)) (by simp)
      have n2:xs.length * inf.bytes≤140737488355328:=by simpa using dq (decide (xs.length * inf.bytes≤140737488355328)) (by simp)
      have hat:cl.argTypes= #[t1,t1]:=by rw [← w7 (xs:=cl.argTypes),hts]
      have sm:=(c.evC hx).1
      have Ip:=(c.evC hy).1
      simp only [Cell.conc]at sm Ip
      have zp:=c.hE _ _ he1
      obtain⟨⟨cs,h1,h2,h3⟩,jy,_⟩:=c.hp.he _ _ zp
      have OE:s.used nid=false:=jM nid (by simp)
      have hr:=Fm (P:=P) (w:=w) t1 ty e' inf t.size hT vr (ρ id) xs.length cs h1
      obtain⟨hX,hp⟩:=c.hp.rowTo zp OE (Chg.refl _ _) h1 h2 (fun b hb=> .inr hb)
      refine au (u:=ρ id) (w':=w) ?_ (hC _ (ρ id) w hX ?_ hp)
      ·simp [execOp,resolve,hb,invoke,builtin,Cr,sm,Ip,hat,hr]
      ·simp only [one,SV.conc,V1.conc,Cell.conc]
       rw [fy _ _ (sX h1)]
    ·cases h
   ·cases h
  ·cases h
 ·cases h
end
end Go.SX
namespace Go.SX
open Go.RowKit
section
variable{P:Program}{tr:Bool}{s:St}{look:Nat→Option SS}{ent:Nat→Option Entry}{A:List (Nat×Bool)}{nid:Nat}{o:Oper}{r:Raw}{B:Base}{ρ:Nm}{a:Act}{w:World}{K:Act→World→Prop}{Q:Exit→Act→World→Prop}
theorem Nm.of_nm{ρ ρ':Nm}(h:ρ'.nm=ρ.nm)(i:Nat):ρ' i=ρ i:=by simp [Nm.of,h]
theorem ajj{ρ ρ':Nm}(h:ρ'.nm=ρ.nm)(c:Cell):c.conc ρ'=c.conc ρ:=
 Cell.conc_congr (U:=fun _=>true) (fun id _=>Nm.of_nm h id) (by cases c <;> simp [Cell.inU])
theorem Vs{ρ ρ':Nm}(h:ρ'.nm=ρ.nm)(cs:List Cell):cs.map (Cell.conc ρ')=cs.map (Cell.conc ρ):=
 List.map_congr_left fun c _=>ajj h c
theorem look?_frz_not{ent:Nat→Option Entry}: ∀ {l:List Nat} {i:Nat},i∉l→look? (frz ent l) i=none
 | [],i,_=>rfl
 |id::r,i,h=>by
  simp only [List.mem_cons,not_or]at h
  simp only [frz]
  split
  ·simp only [look?]
   cases hb:Nat.beq id i with
   |true=>exact(h.1 (q8 hb).symm).elim
   |false=>exact look?_frz_not h.2
  ·exact look?_frz_not h.2
theorem Tq: ∀ (t:CTy) (x:E t) (n:Nat),t.flat=true→(sR t x n).map (Cell.conc ρ)=ZV t x
 | .int _,_,_,_=>rfl
 | .bool,_,_,_=>rfl
 | .str,_,_,_=>rfl
 | .sl _ _,_,_,h=>by cases h
 | .fn,_,_,h=>by cases h
 | .pair a b,p,n,h=>by
  simp only [CTy.flat,w3]at h
  simp only [sR,List.map_append,ZV,Tq a p.1 n h.1,Tq b p.2 _ h.2]
theorem VX{α:Type}(cur N:List α)(k off z m:Nat)(h1:off + N.length≤z)(h2:k + z≤m)(h3:m≤cur.length):
  (cur.take (k + off)++N++cur.drop (k + off + N.length)).take m=
   (cur.take m).take k++((((cur.take m).drop k).take z).take off++N++(((cur.take m).drop k).take z).drop (off + N.length))++(cur.take m).drop (k + z):=by
 apply List.ext_getElem?
 intro j
 simp only [List.getElem?_take,List.getElem?_append,List.getElem?_drop,w4,w5,List.length_drop]
 have e1:min (k + off) cur.length=k + off:=by omega
 have e2:min m cur.length=m:=by omega
 have e3:min k m=k:=by omega
 have e4:min z (m - k)=z:=by omega
 have e5:min off z=off:=by omega
 simp only [e1,e2,e3,e4,e5]
 by_cases c1:j < k
 ·have:j < k + off:=by omega
  simp [c1,this,show j < m by omega,show j < k + off + N.length by omega,show j < k + (off + N.length + (z - (off + N.length))) by omega]
 ·by_cases c2:j < k + off
  ·simp [c1,c2,show j < m by omega,show j < k + off + N.length by omega,show j < k + (off + N.length + (z - (off + N.length))) by omega,show j - k < off + N.length by omega,show j - k < off by omega,show j - k < z by omega,show k + (j - k)=j by omega]
  ·by_cases c3:j < k + off + N.length
   ·simp [c1,c2,c3,show j < m by omega,show j < k + (off + N.length + (z - (off + N.length))) by omega,show j - k < off + N.length by omega,show ¬ j - k < off by omega,show j - (k + off)=j - k - off by omega]
   ·by_cases c4:j < k + z
    ·simp [c1,c3,show j < m by omega,show j < k + (off + N.length + (z - (off + N.length))) by omega,show ¬ j - k < off + N.length by omega,show off + N.length + (j - k - (off + N.length)) < z by omega,
      show k + (off + N.length + (j - k - (off + N.length))) < m by omega]
     congr 1;omega
    ·by_cases c5:j < m
     ·simp [c3,c5,show ¬ j < k + (off + N.length + (z - (off + N.length))) by omega,show k + z + (j - (k + (off + N.length + (z - (off + N.length))))) < m by omega]
      congr 1;omega
     ·simp [c5,show ¬ j < k + (off + N.length + (z - (off + N.length))) by omega,show ¬ k + z + (j - (k + (off + N.length + (z - (off + N.length))))) < m by omega]
theorem aht{α:Type}{cs D:List α}{k z n:Nat}(hl:cs.length=n * z)(hk:k < n)(hD:D.length=z):
  ((cs.take (k * z)++D++cs.drop (k * z + z)).drop (k * z)).take z=D∧ ∀ j,j≠k→j < n→((cs.take (k * z)++D++cs.drop (k * z + z)).drop (j * z)).take z=(cs.drop (j * z)).take z:=by
 have Gt:=tO (z:=z) hk
 refine⟨?_,fun j hj hjn=> ?_⟩
 ·rw [List.append_assoc,List.drop_append,List.drop_take,Nat.sub_self,List.take_zero,List.nil_append,w5,hl,Nat.min_eq_left (by omega),Nat.sub_self,List.drop_zero,List.take_append_of_le_length (by omega),← hD,List.take_length]
 ·by_cases gm:j < k
  ·have h1:j * z + z≤k * z:=tO gm
   have e:(cs.take (k * z)++D++cs.drop (k * z + z)).drop (j * z)=(cs.drop (j * z)).take (k * z - j * z)++(D++cs.drop (k * z + z)):=by
    rw [List.append_assoc,List.drop_append_of_le_length (by rw [w5,hl];omega),List.drop_take]
   rw [e,List.take_append_of_le_length (by rw [w5,List.length_drop,hl];have:=tO (z:=z) hjn;omega),List.take_take,Nat.min_eq_left (by omega)]
  ·have hgt:k < j:=by omega
   have h1:k * z + z≤j * z:=tO hgt
   have e:(cs.take (k * z)++D++cs.drop (k * z + z)).drop (j * z)=cs.drop (j * z):=by
    rw [List.drop_append,List.drop_eq_nil_of_le (by rw [w4,w5,hl,hD];omega),List.nil_append,w4,w5,hl,hD,List.drop_drop]
    congr 1;omega
   rw [e]
theorem Hp.treeSet{ent:Nat→Option Entry}{used:Nat→Bool}(h:Hp B ρ ent used w){id:Nat}{e:TypeId}{t:CTy}{xs:List (E t)}{k:Nat}{hc:List Cell}(he:ent id=some (.tree e t xs (some (k,hc)))){ns:List Cell}{off:Nat}
  (hns: ∀ c∈ns,c.inU used) (jw:off + ns.length≤t.size):
  ∃ g cap cur,ρ id= .slice (some ⟨g,0,none⟩) xs.length cap∧w.heap[g]? =some (.cells cur e (0,0))∧k * t.size + t.size≤cur.size∧
   Ext B used ρ ρ∧Hp B ρ (aZ ent [(id,.tree e t xs (some (k,hc.take off++ns++hc.drop (off + ns.length))))]) used (w.setRow g (cur.toList.take (k * t.size + off)++ns.map (Cell.conc ρ)++cur.toList.drop (k * t.size + off + ns.length)).toArray):=by
 obtain⟨⟨cs,Ls,h1,⟨t1,t2,t3,t4⟩,h3,h4,h5⟩,jy,BV⟩:=h.he _ _ he
 obtain⟨hk,hLk,hch⟩:=t2 k hc rfl
 have gm:=tO (z:=t.size) hk
 rcases h1.2 with⟨_,hn⟩ | ⟨g,cap,cur,hv,hc0,hg,Gt,TZ,FG,Ub⟩
 ·omega
 have hle2:xs.length * t.size≤cur.size:=by rw [FG];exact Nat.mul_le_mul_right _ Gt
 refine⟨g,cap,cur,hv,hg,by omega,?_⟩
 have hgo: ∀ b∈qo Ls,b≠g:=fun b hb hbg=>h4 b (by rw [hv,sn hc0,hbg];simp) (by rw [h3];exact hb)
 obtain⟨W,hW⟩: ∃ W,W=w.setRow g (cur.toList.take (k * t.size + off)++ns.map (Cell.conc ρ)++cur.toList.drop (k * t.size + off + ns.length)).toArray:=⟨_,rfl⟩
 rw [← hW]
 have hspl:=VX cur.toList (ns.map (Cell.conc ρ)) (k * t.size) off t.size (xs.length * t.size) (by simpa using jw) gm (by simpa using hle2)
 rw [Ub,hch,List.length_map]at hspl
 have Rt:cs.length=xs.length * t.size:=h1.1
 have hhc:hc.length=t.size:=by
  have:=congrArg List.length hch
  rw [w5,List.length_drop,List.length_map,Rt]at this
  omega
 have hDl:((hc.map (Cell.conc ρ)).take off++ns.map (Cell.conc ρ)++(hc.map (Cell.conc ρ)).drop (off + ns.length)).length=t.size:=by
  simp only [w4,w5,List.length_drop,List.length_map];omega
 obtain⟨s1,s2⟩:=aht (n:=xs.length) Rt hk hDl
 have:=h.toTree (ρ':=ρ) (w':=W) (X:=fun b=>b=g) (G:= []) (id:=id) (new:= []) (e:=e) (t:=t) (xs:=xs) (ho:=some (k,hc.take off++ns++hc.drop (off + ns.length)))
  (cs:=(cur.toList.take (k * t.size + off)++ns.map (Cell.conc ρ)++cur.toList.drop (k * t.size + off + ns.length)).take (xs.length * t.size)) (Ls:=Ls)
  (by rw [hW];exact Chg.setRow w g _) (fun _ _=>rfl) rfl (fun _ _=>rfl) (fun g hg=>by cases hg) jy (fun c TZ=> ?_) (fun b hb=>⟨id,.inl rfl,_,he,by subst hb;simp only [Entry.ob,hv,sn hc0];simp⟩)
  (fun b hb=> .inr ⟨id,.inl rfl,_,he,by simp only [Entry.ob,h3];exact hb⟩) ?_ ⟨t1,fun k' hc' hk'=> ?_,fun j y l hj hy hl=> ?_,t4⟩ h3 (fun b hb=>by rw [← h3];exact h4 b hb)
 ·exact⟨Ext.refl _ _ _,this.2⟩
 ·simp only [List.append_assoc,w8]at TZ
  rcases TZ with TZ | TZ | TZ
  ·exact BV c (List.mem_of_mem_take TZ)
  ·exact hns c TZ
  ·exact BV c (List.mem_of_mem_drop TZ)
 ·refine⟨?_,.inr ⟨g,cap,(cur.toList.take (k * t.size + off)++ns.map (Cell.conc ρ)++cur.toList.drop (k * t.size + off + ns.length)).toArray,hv,hc0,?_,Gt,TZ,?_,?_⟩⟩
  ·simp only [w5,w4,List.length_map,List.length_drop,Array.length_toList];omega
  ·rw [hW];exact setRow_heap w g _ _ e _ hg
  ·simp only [List.size_toArray,w5,w4,List.length_map,List.length_drop,Array.length_toList];omega
  ·rfl
 ·cases hk'
  refine⟨hk,hLk,?_⟩
  rw [hspl,s1]
  simp only [List.map_append,List.map_take,List.map_drop]
 ·have Oc:j≠k:=hj k _ rfl
  have hjn:j < xs.length:=(z6.1 hy).1
  rw [hspl,s2 j Oc hjn]
  refine(t3 j y l (fun a b hab=>by cases hab;exact Oc) hy hl).keep fun b hb=> ?_
  rw [hW]
  exact setRow_other w g b _ fun e=>hgo b (nS.2 ⟨j,l,hl,hb⟩) e
theorem GO.win{H:Nat→Option Obj}{t:CTy}{v:Value}{xs:List (E t)}(h:GO H t v xs){i:Nat}(hi:i < xs.length):
  ∃ b off cap arr T fz,v= .slice (some ⟨b,off,none⟩) xs.length cap∧xs.length≤cap∧cap≤maxLen∧H b=some (.cells arr T fz)∧off + xs.length * t.size≤arr.size∧jY H t ((arr.toList.drop off).take (xs.length * t.size)) xs:=by
 rcases h with⟨_,hn⟩ | ⟨b,off,cap,arr,T,fz,h1,h2,h3,h4,h5⟩
 ·rw [hn]at hi;simp at hi
 ·have hp:=uW t
  have hlast:off + xs.length * t.size≤arr.size:=by
   have hx:xs[xs.length - 1]? =some (xs[xs.length - 1]'(by omega)):=List.getElem?_eq_getElem (by omega)
   have hl:=Rep.length t _ _ (h5 _ _ hx)
   rw [w5,List.length_drop,Array.length_toList]at hl
   have e:xs.length * t.size=(xs.length - 1) * t.size + t.size:=by
    have:(xs.length - 1 + 1) * t.size=(xs.length - 1) * t.size + t.size:=by rw [Nat.add_mul,Nat.one_mul]
    rw [← this];congr 1;omega
   omega
  refine⟨b,off,cap,arr,T,fz,h1,h2,h3,h4,hlast,by have:=Array.length_toList (xs:=arr);rw [w5,List.length_drop];omega,fun j x hx=> ?_⟩
  have gm:=tO (z:=t.size) (z6.1 hx).1
  rw [List.drop_take,List.take_take,Nat.min_eq_left (by omega),List.drop_drop]
  exact h5 j x hx
theorem GO.ofWin{H:Nat→Option Obj}{t:CTy}{xs:List (E t)}{b off cap:Nat}{arr:Array Value}{T:TypeId}{fz:Nat×Nat}(h1:xs.length≤cap)(h2:cap≤maxLen)(h3:H b=some (.cells arr T fz))
  (h:jY H t ((arr.toList.drop off).take (xs.length * t.size)) xs):GO H t (.slice (some ⟨b,off,none⟩) xs.length cap) xs:=by
 refine .inr ⟨b,off,cap,arr,T,fz,rfl,h1,h2,h3,fun j x hx=> ?_⟩
 have gm:=tO (z:=t.size) (z6.1 hx).1
 have:=h.2 j x hx
 rwa [List.drop_take,List.take_take,Nat.min_eq_left (by omega),List.drop_drop]at this
theorem aig{α:Type}(l r:List α)(a k:Nat)(h:a + k≤l.length):(l.take (a + k)++r).drop a=(l.drop a).take k++r:=by
 rw [List.drop_append_of_le_length (by rw [w5];omega),List.drop_take,show a + k - a=k by omega]
theorem Hp.wkSet{ent:Nat→Option Entry}{used:Nat→Bool}(h:Hp B ρ ent used w){id:Nat}{e:TypeId}{t:CTy}{xs xs':List (E t)}{w':World}(he:ent id=some (.wk e t xs))
  (hg:Chg w w' (fun k=>k∈fB (ρ id))) (hr:GO (ac3 w') t (ρ id) xs'):Ext B used ρ ρ∧Hp B ρ (aZ ent [(id,.wk e t xs')]) used w':=by
 obtain⟨⟨h1,h2,h3⟩,jy,_⟩:=h.he _ _ he
 have Gu: ∀ b∈fB (ρ id),Was ent ρ [(id,.wk e t xs')] b:=fun b hb=>⟨id,_,_,he,hb,look?_same _ _ _⟩
 rw [show used=bk used [] from rfl]
 refine h.chg hg (fun _ _=>rfl) (fun _ _ h=>h) (fun k hk=>Gu k hk) (fun _ _ hb=> .inl hb) (fun i x hl=> ?_) (fun i x b hl hb'=> ?_) (fun i i' x x' b hl hl' hb1 hb2=> ?_)
 ·obtain⟨rfl,rfl⟩:=look?_one hl
  exact⟨⟨h1,hr,h3⟩,jy,trivial⟩
 ·obtain⟨rfl,rfl⟩:=look?_one hl
  exact .inr (Gu b hb')
 ·exact(look?_one hl).1.trans (look?_one hl').1.symm
theorem aem(c:Ctx B ρ s a w look ent A){T:TypeId}{x y:Operand}(ho:o.op= .store T x y)(h:agI P look ent A nid T x y=some r)(jM: ∀ i∈r.new,s.used i=false)(dq: ∀ b∈r.nd,b=true)(hC:lP B s ρ r o a K):o.wp P a w K Q:=by
 obtain⟨dst,op,ty,pos,after,guard⟩:=o
 simp only at ho;subst ho
 unfold agI at h
 split at h
 ·rename_i id off v hx hy
  split at h
  ·rename_i U cs ns he hns
   cases ii:AD P T off cs.length ns with
   |false=>simp [ii]at h
   |true=>
    simp [ii]at h;subst h
    have zp:=c.hE _ _ he
    obtain⟨⟨b,h1,h2,_⟩,_,BV⟩:=c.hp.he _ _ zp
    have sm:=(c.evC hx).1
    obtain⟨Ip,hyin⟩:=c.ev1 hy
    have hnin:=V1.cells?_inU hyin hns
    have hr:=Nb (ρ:=ρ) (w:=w) (b:=b) (off:=off) ii (fun h=>by simpa using h) (V1.cells?_conc ρ hns) h2
    obtain⟨hX,hp⟩:=c.hp.setBox zp (ns:=cs.take off++ns++cs.drop (off + ns.length)) (fun c hc=>by
     simp only [List.append_assoc,w8]at hc
     rcases hc with hc | hc | hc
     ·exact BV c (List.mem_of_mem_take hc)
     ·exact hnin c hc
     ·exact BV c (List.mem_of_mem_drop hc))
    have hbk:Mv (ρ id)=b:=by rw [h1];rfl
    rw [hbk]at hp
    rw [ZB,hbk]at sm
    obtain⟨W,hW⟩: ∃ W,W=w.setRow b ((cs.take off++ns++cs.drop (off + ns.length)).map (Cell.conc ρ)).toArray:=⟨_,rfl⟩
    rw [← hW]at hp
    have hr':(storeVar T ⟨b,off,none⟩ (v.conc ρ)).run P w= .ok () W:=by
     rw [hr,hW];simp [List.map_take,List.map_drop]
    refine KZ (w':=W) ?_ (hC ρ _ W hX (SV.conc_ofValue ρ undef).symm (by simpa [Qg,List.append_assoc] using hp))
    simp [execOp,Instr.storeAt,sm,Ip,Instr.sureAddr,hr']
  ·cases h
 ·rename_i id z i off v hx hy
  split at h
  ·rename_i e t xs ns he hns
   cases ii:(Nat.beq z t.size&&AD P T off t.size ns&&(t.flat||Nat.beq off 0&&Nat.beq ns.length t.size))with
   |false=>simp [ii]at h
   |true=>
    simp only [ii,cond_true]at h
    simp only [w3]at ii
    obtain⟨⟨k1,k2⟩,k3⟩:=ii
    have:=q8 k1;subst this
    split at h
    ·rename_i y' l Rt
     cases hm:memN l id with
     |true=>simp [hm]at h
     |false=>
      simp only [hm,cond_false]at h
      cases h
      have hi:i < xs.length:=by simpa using dq (decide (i < xs.length)) (by simp)
      have zp:=c.hE _ _ he
      have sm:=(c.evC hx).1
      obtain⟨Ip,hyin⟩:=c.ev1 hy
      obtain⟨ρ1,n1,x1,h1⟩:=c.hp.freezes c.hE l
      have hnl:id∉l:=fun hh=>by rw [memN_mem.2 hh]at hm;cases hm
      have hent1:aZ s.ent (frz ent l) id=some (.row true e t xs):=by simp only [aZ,look?_frz_not hnl];exact zp
      obtain⟨⟨cs,g1,g2,g3⟩,_,_⟩:=h1.he _ _ hent1
      have qE:=Lf c.hE h1 t _ _ _ Rt fun i hi=>hi
      have gm:=tO (z:=t.size) hi
      rcases g1.2 with⟨_,hn⟩ | ⟨g,cap,cur,hv,hc0,hg,Gt,TZ,FG,Ub⟩
      ·omega
      ·have jy:=Nm.of_nm n1 id
       have hle2:xs.length * t.size≤cur.size:=by rw [FG];exact Nat.mul_le_mul_right _ Gt
       have hns':off + ns.length≤t.size:=by
        unfold AD at k2
        split at k2
        ·simp only [w3]at k2;exact j6 k2.1.2
        ·cases k2
       have hr:=Nb (ρ:=ρ) (w:=w) (b:=g) (off:=i * t.size + off) (cur:=cur) k2 (fun h=>by omega) (V1.cells?_conc ρ hns) hg
       obtain⟨W,hW⟩: ∃ W,W=w.setRow g (cur.toList.take (i * t.size + off)++ns.map (Cell.conc ρ)++cur.toList.drop (i * t.size + off + ns.length)).toArray:=⟨_,rfl⟩
       rw [← hW]at hr
       have hgr:w.grownBy W (ρ1 id).ownBlock:=by
        rw [hv,hW]
        exact⟨rfl,rfl,rfl,by simp [World.setRow],fun k _ hk=>setRow_other w g k _ fun e=>hk (by simp [Value.ownBlock,e])⟩
       have hspl:=VX cur.toList (ns.map (Cell.conc ρ)) (i * t.size) off t.size (xs.length * t.size) (by simpa using hns') gm (by simpa using hle2)
       have pT:W.ownsRow 0 e t.size (ρ1 id) (xs.set i y').length ((cur.toList.take (i * t.size + off)++ns.map (Cell.conc ρ)++cur.toList.drop (i * t.size + off + ns.length)).take (xs.length * t.size)):=by
        refine⟨?_,.inr ⟨g,cap,(cur.toList.take (i * t.size + off)++ns.map (Cell.conc ρ)++cur.toList.drop (i * t.size + off + ns.length)).toArray,?_,Nat.zero_le _,?_,?_,TZ,?_,?_⟩⟩
        ·simp only [j8,w5,w4,List.length_map,List.length_drop,Array.length_toList];omega
        ·rw [j8];exact hv
        ·rw [hW];exact setRow_heap w g _ _ e _ hg
        ·rw [j8];exact Gt
        ·simp only [List.size_toArray,w5,w4,List.length_map,List.length_drop,Array.length_toList];omega
        ·rw [j8]
       have hds:jY ρ1.mem t ((cur.toList.take (i * t.size + off)++ns.map (Cell.conc ρ)++cur.toList.drop (i * t.size + off + ns.length)).take (xs.length * t.size)) (xs.set i y'):=by
        rw [List.length_map]at hspl
        rw [hspl,Ub]
        refine jY.set g2 hi ?_
        have hch:=g2.2 i _ (Tc (d:=sW t) hi)
        rw [Vs n1]at qE
        simp only [List.map_append,List.map_take,List.map_drop]at qE
        rcases Bool.or_eq_true_iff.1 k3 with hf | hf
        ·rw [Tq t _ nid hf]at qE
         rw [Rep.flat t _ _ hf hch];exact qE
        ·simp only [w3]at hf
         have f1:=q8 hf.1
         have f2:=q8 hf.2
         subst f1
         rw [f2]at qE ⊢
         rw [List.take_zero,List.drop_eq_nil_of_le (by rw [List.length_map,Tr];omega)]at qE
         rw [List.take_zero,List.drop_eq_nil_of_le (by rw [w5];omega)]
         exact qE
       obtain⟨hX,hp⟩:=h1.rowSet hent1 (Chg.own hgr fun k hk=>by rw [hv]at hk ⊢;simp only [Value.ownBlock,q9]at hk;rw [sn hc0,← hk];simp) (LU pT) hds
       rw [yP]at hp
       refine KZ (w':=W) ?_ (hC ρ1 _ W (x1.trans hX fun _ h=>h) (SV.conc_ofValue ρ1 undef).symm hp)
       rw [LA]at sm
       rw [jy]at hv
       simp only [hv,Mv,VB,Nat.zero_add]at sm
       simp [execOp,Instr.storeAt,sm,Ip,Instr.sureAddr,hr]
    ·cases h
  ·rename_i e t xs ns he hns
   cases ii:(Nat.beq z t.size&&AD P T off t.size ns)with
   |false=>simp [ii]at h
   |true=>
    simp only [ii,cond_true]at h
    simp only [w3]at ii
    obtain⟨k1,k2⟩:=ii
    have:=q8 k1;subst this
    split at h
    ·rename_i y' Rt
     cases h
     have hi:i < xs.length:=by simpa using dq (decide (i < xs.length)) (by simp)
     have zp:=c.hE _ _ he
     have sm:=(c.evC hx).1
     obtain⟨Ip,hyin⟩:=c.ev1 hy
     obtain⟨⟨hf,g2,g3⟩,_,_⟩:=c.hp.he _ _ zp
     have h0:Hp B ρ (aZ s.ent (frz ent [])) s.used w:=c.hp
     have qE:=Lf c.hE h0 t _ _ _ Rt fun i hi=>hi
     have hns':off + ns.length≤t.size:=by
      unfold AD at k2
      split at k2
      ·simp only [w3]at k2;exact j6 k2.1.2
      ·cases k2
     obtain⟨b,o0,cap,arr,T',fz,hv,q2,q3,q4,q5,q6⟩:=g2.win hi
     obtain⟨hg,a',T'',hoo⟩:=VL.1 q4
     cases hoo
     have gm:=tO (z:=t.size) hi
     have hr:=Nb (ρ:=ρ) (w:=w) (b:=b) (off:=o0 + (i * t.size + off)) (cur:=arr) k2 (fun h=>by omega) (V1.cells?_conc ρ hns) hg
     obtain⟨W,hW⟩: ∃ W,W=w.setRow b (arr.toList.take (o0 + (i * t.size + off))++ns.map (Cell.conc ρ)++arr.toList.drop (o0 + (i * t.size + off) + ns.length)).toArray:=⟨_,rfl⟩
     rw [← hW]at hr
     have hspl:=VX (arr.toList.drop o0) (ns.map (Cell.conc ρ)) (i * t.size) off t.size (xs.length * t.size) (by simpa using hns') gm (by have:=Array.length_toList (xs:=arr);rw [List.length_drop];omega)
     have hcut:(arr.toList.take (o0 + (i * t.size + off))++ns.map (Cell.conc ρ)++arr.toList.drop (o0 + (i * t.size + off) + ns.length)).drop o0=(arr.toList.drop o0).take (i * t.size + off)++ns.map (Cell.conc ρ)++(arr.toList.drop o0).drop (i * t.size + off + (ns.map (Cell.conc ρ)).length):=by
      rw [List.append_assoc,aig _ _ _ _ (by rw [Array.length_toList];omega),List.append_assoc,List.drop_drop,List.length_map]
      congr 3;omega
     have hds:jY (ac3 W) t (((arr.toList.take (o0 + (i * t.size + off))++ns.map (Cell.conc ρ)++arr.toList.drop (o0 + (i * t.size + off) + ns.length)).drop o0).take (xs.length * t.size)) (xs.set i y'):=by
      rw [hcut,hspl]
      have q7:jY (ac3 W) t ((arr.toList.drop o0).take (xs.length * t.size)) xs:=⟨q6.1,fun j x hx=>by rw [Rep.flat t _ _ hf (q6.2 j x hx)];exact Rep.of_flat t x hf⟩
      refine jY.set q7 hi ?_
      have hch:=q6.2 i _ (Tc (d:=sW t) hi)
      simp only [List.map_append,List.map_take,List.map_drop]at qE
      rw [Tq t _ nid hf]at qE
      rw [Rep.flat t _ _ hf hch]
      rw [List.length_map]
      rw [Rep.flat t _ _ hf qE]
      exact Rep.of_flat t _ hf
     have FG:b∈fB (ρ id):=by rw [hv,sn (by omega)];simp
     obtain⟨hX,hp⟩:=c.hp.wkSet (xs':=xs.set i y') zp (w':=W) (by
      rw [hW]
      exact⟨rfl,rfl,rfl,by simp [World.setRow],fun k _ hk=>setRow_other w b k _ fun e=>hk (by rw [e];exact FG)⟩) (by
      rw [hv]
      have:=GO.ofWin (H:=ac3 W) (t:=t) (xs:=xs.set i y') (b:=b) (off:=o0) (cap:=cap) (arr:=(arr.toList.take (o0 + (i * t.size + off))++ns.map (Cell.conc ρ)++arr.toList.drop (o0 + (i * t.size + off) + ns.length)).toArray) (T:=T') (fz:=(0,0)) (by rw [j8];exact q2) q3
       (VL.2 ⟨by rw [hW];exact setRow_heap w b _ _ T' _ hg,_,_,rfl⟩) (by rw [j8];exact hds)
      rwa [j8]at this)
     refine KZ (w':=W) ?_ (hC ρ _ W hX (SV.conc_ofValue ρ undef).symm hp)
     rw [LA]at sm
     simp only [hv,Mv,VB]at sm
     simp [execOp,Instr.storeAt,sm,Ip,Instr.sureAddr,hr]
    ·cases h
  ·rename_i e t xs ns he hns
   cases ii:(Nat.beq z t.size&&AD P T off t.size ns)with
   |false=>simp [ii]at h
   |true=>
    simp only [ii,cond_true]at h
    simp only [w3]at ii
    obtain⟨k1,k2⟩:=ii
    have:=q8 k1;subst this
    cases h
    have hi:i < xs.length:=by simpa using dq (decide (i < xs.length)) (by simp)
    have zp:=c.hE _ _ he
    have sm:=(c.evC hx).1
    obtain⟨Ip,hyin⟩:=c.ev1 hy
    have hnin:=V1.cells?_inU hyin hns
    obtain⟨hid0,hidu,_⟩:=c.hp.he _ _ zp
    obtain⟨ρ1,hX1,hm1,h1⟩:=c.hp.treeOpen zp (Tc (d:=sW t) hi) (nid:=nid) (fun j hj=>jM j hj)
    have hns':off + ns.length≤t.size:=by
     unfold AD at k2
     split at k2
     ·simp only [w3]at k2;exact j6 k2.1.2
     ·cases k2
    obtain⟨g,cap,cur,hv,hg,Jr,hX2,h2⟩:=h1.treeSet (id:=id) (e:=e) (t:=t) (xs:=xs) (k:=i) (hc:=sR t (xs[i]?.getD (sW t)) nid) (by simp [aZ,look?]) (ns:=ns) (off:=off) (fun c hc=>Cell.inU_mono ic (hnin c hc)) hns'
    have Tg:ns.map (Cell.conc ρ1)=ns.map (Cell.conc ρ):=uQ hX1.nm hnin
    rw [Tg]at h2
    have hr:=Nb (ρ:=ρ) (w:=w) (b:=g) (off:=i * t.size + off) (cur:=cur) k2 (fun h=>by omega) (V1.cells?_conc ρ hns) hg
    obtain⟨W,hW⟩: ∃ W,W=w.setRow g (cur.toList.take (i * t.size + off)++ns.map (Cell.conc ρ)++cur.toList.drop (i * t.size + off + ns.length)).toArray:=⟨_,rfl⟩
    rw [← hW]at hr h2
    have hee:aZ (aZ s.ent ((id,Entry.tree e t xs (some (i,sR t (xs[i]?.getD (sW t)) nid)))::AL t (xs[i]?.getD (sW t)) nid)) [(id,.tree e t xs (some (i,(sR t (xs[i]?.getD (sW t)) nid).take off++ns++(sR t (xs[i]?.getD (sW t)) nid).drop (off + ns.length))))]=
      aZ s.ent ((id,.tree e t xs (some (i,(sR t (xs[i]?.getD (sW t)) nid).take off++ns++(sR t (xs[i]?.getD (sW t)) nid).drop (off + ns.length))))::AL t (xs[i]?.getD (sW t)) nid):=by
     funext j
     simp only [aZ,look?]
     cases Nat.beq id j <;> rfl
    rw [hee]at h2
    refine KZ (w':=W) ?_ (hC ρ1 _ W hX1 (SV.conc_ofValue ρ1 undef).symm h2)
    have hid1:ρ1 id=ρ id:=hX1.nm id hidu
    rw [hid1]at hv
    rw [LA]at sm
    simp only [hv,Mv,VB,Nat.zero_add]at sm
    simp [execOp,Instr.storeAt,sm,Ip,Instr.sureAddr,hr]
  ·cases h
 ·cases h
theorem RS(c:Ctx B ρ s a w look ent A): ∀ {xs:List Operand} {vs:List SV},evs look A xs=some vs→xs.map a.eval=vs.map (SV.conc ρ)∧ ∀ v∈vs,v.inU s.used
 | [],vs,h=>by simp [evs]at h;subst h;simp
 |x::xs,vs,h=>by
  simp only [evs]at h
  split at h
  ·rename_i v vs' h1 h2
   cases h
   obtain⟨e1,i1⟩:=c.ev h1
   obtain⟨e2,i2⟩:=RS c h2
   refine⟨by simp [e1,e2],fun u hu=> ?_⟩
   rcases List.mem_cons.1 hu with rfl | hu
   ·exact i1
   ·exact i2 u hu
  ·cases h
theorem adC: ∀ {vs:List SV} {ids:List Nat},ahP vs=some ids→vs.map (SV.conc ρ)=ids.map fun id=>Value.pointer (some ⟨Mv (ρ id),0,none⟩)
 | [],ids,h=>by simp [ahP]at h;subst h;rfl
 |v::vs,ids,h=>by
  unfold ahP at h
  split at h
  ·cases ‹v::vs= []›
  ·rename_i id r Lq
   cases Lq
   cases hq:ahP vs with
   |none=>simp [hq]at h
   |some l=>simp [hq]at h;subst h;simp [adC hq,SV.conc,V1.conc,Cell.conc]
  ·cases h
theorem ZT{ρ:Nm}: ∀ {cs:List Cell} {bs:List (Nat×Option Value)},afQ cs=some bs→cs.map (Cell.conc ρ)=bs.map (bcV ρ)
 | [],bs,h=>by simp [afQ]at h;subst h;rfl
 | .ref id::r,bs,h=>by
  simp only [afQ,Option.map_eq_some_iff]at h
  obtain⟨l,hl,rfl⟩:=h
  rw [w9,w9,ZT hl];rfl
 | .val v::r,bs,h=>by
  simp only [afQ,Option.map_eq_some_iff]at h
  obtain⟨l,hl,rfl⟩:=h
  rw [w9,w9,ZT hl];rfl
 | .ptr _ _::_,bs,h=>by cases h
 | .el _ _ _ _::_,bs,h=>by cases h
 | .vw _ _ _::_,bs,h=>by cases h
 | .clo _ _::_,bs,h=>by cases h
 | .bnd _ _::_,bs,h=>by cases h
theorem abb(c:Ctx B ρ s a w look ent A){fn:Fn}{first captured:Array Operand}(ho:o.op= .makeFunc fn first captured)(h:aah look A fn first captured=some r)(hC:lP B s ρ r o a K):o.wp P a w K Q:=by
 obtain⟨dst,op,ty,pos,after,guard⟩:=o
 simp only at ho;subst ho
 unfold aah at h
 split at h
 ·rename_i f x hf hvs
  have hfa:first= #[x]:=by rw [← w7 (xs:=first),hf]
  have hcv:=(RS c hvs).1
  have hca:captured.map a.eval= #[]:=by
   have:(captured.map a.eval).toList= []:=by rw [Array.toList_map];exact hcv
   rw [← w7 (xs:=captured.map a.eval),this]
  split at h
  ·rename_i cs hx
   split at h
   ·rename_i bs hbs
    cases h
    have sm:=(c.ev hx).1
    have hr: ∀ w,(execOp a.eval ⟨dst,.makeFunc (.func f) first captured,ty,pos,after,guard⟩).run P w= .ok (.value (.func (.func f) #[.agg (bs.map (bcV ρ)).toArray] #[])) w:=fun w=>by
     simp only [execOp,Instr.makeFunc,hfa,hca,List.map_toArray,w9,List.map_nil,sm,SV.conc,V1.conc,ZT hbs]
     rfl
    exact au (hr w) (lP.same (v:=one (.bnd f bs)) rfl hC c.hp)
   ·cases h
  ·cases h
 ·rename_i f vs hf hvs
  have hfa:first= #[]:=by rw [← w7 (xs:=first),hf]
  have hcv:=(RS c hvs).1
  have hca:captured.map a.eval=(vs.map (SV.conc ρ)).toArray:=by
   rw [← hcv,← w7 (xs:=captured.map a.eval),Array.toList_map]
  have hr: ∀ w,(execOp a.eval ⟨dst,.makeFunc (.func f) first captured,ty,pos,after,guard⟩).run P w= .ok (.value (.func (.func f) #[] (vs.map (SV.conc ρ)).toArray)) w:=fun w=>by
   simp [execOp,Instr.makeFunc,hfa,hca]
  split at h
  ·cases h
   exact au (hr w) (lP.same (v:=one (.val (.func (.func f) #[] #[]))) rfl hC c.hp)
  ·split at h
   ·rename_i ids hids
    cases h
    refine au (hr w) ?_
    rw [adC hids]
    exact lP.same (v:=one (.clo f ids)) rfl hC c.hp
   ·cases h
 ·cases h
theorem aja(c:Ctx B ρ s a w look ent A){x:Operand}(h:vok look A x=true):vof look A x=a.eval x:=by
 unfold vok at h
 unfold vof
 cases he:SX.ev look A x with
 |none=>simp [he]at h
 |some v=>
  simp only [he]at h
  cases ht:v.toValue? with
  |none=>simp [ht]at h
  |some u=>rw [(c.ev he).1,SV.toValue?_conc ρ ht];simp only [ht]
theorem lT(c:Ctx B ρ s a w look ent A)(hsel: ∀ cs b,o.op≠ .select cs b)(h:DX P look A o=some r)(hC:lP B s ρ r o a K):o.wp P a w K Q:=by
 unfold DX at h
 cases RU:(Gi o.op).all (vok look A)with
 |false=>simp [RU]at h
 |true=>
  simp only [RU,cond_true]at h
  have hcg:execOp a.eval o=execOp (vof look A) o:=execOp_congr o hsel fun x hx=>by
   have hm:=ahJ hx
   exact(aja c (List.all_eq_true.1 RU x hm)).symm
  split at h
  ·rename_i v hv
   cases h
   have hrun:=VI P _ _ hv w
   rw [← hcg]at hrun
   refine au hrun ?_
   have:=lP.same (v:= .ofValue v) rfl hC c.hp
   rwa [SV.conc_ofValue]at this
  ·cases h
end
end Go.SX
