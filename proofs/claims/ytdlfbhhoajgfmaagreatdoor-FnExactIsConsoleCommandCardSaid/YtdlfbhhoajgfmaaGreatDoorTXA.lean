import Derived.WalkKit
import Derived.KernelRfl
import Derived.Laws.AppendOwn
import Derived.Laws.MakeOwn
import Derived.Laws.OwnMore
import Derived.ArgAppend
set_option linter.unusedSimpArgs false
set_option linter.unusedVariables false
open Nat renaming eq_of_beq_eq_true → q8
open Option.some renaming injEq → q9
open Bool renaming and_eq_true → w3
open List renaming length_append → w4
open List renaming length_take → w5
open List renaming mem_append_right → w6
open Array renaming toArray_toList → w7
open List renaming mem_append → w8
open List renaming map_cons → w9
open List renaming getElem?_eq_some_iff → zQ
open List renaming replicate → zW
open Prod.mk renaming injEq → zZ
open Nat renaming le_of_ble_eq_true → zJ
open List renaming mem_singleton → zK
open List renaming length_set → zV
namespace Go.SX
open Go.RowKit
inductive CTy where
 |int (k:IntKind)
 |bool
 |str
 |pair (a b:CTy)
 |sl (e:TypeId) (t:CTy)
 |fn
 deriving DecidableEq
def E:CTy→Type
 | .int _=>Int
 | .bool=>Bool
 | .str=>ByteArray
 | .pair a b=>E a×E b
 | .sl _ t=>List (E t)
 | .fn=>Unit
def CTy.size:CTy→Nat
 | .pair a b=>a.size + b.size
 |_=>1
structure GEnt where
 g:Nat
 T:TypeId
 e:TypeId
 t:CTy
 xs:List (E t)
def xG:List Int:= [1,10,100,1000,10000,100000,1000000,10000000,100000000,1000000000,10000000000,100000000000,1000000000000,10000000000000,100000000000000,1000000000000000,10000000000000000,100000000000000000,1000000000000000000,10000000000000000000]
def GT:List GEnt:= [⟨9,256,199,.int .u64,xG⟩]
def GV:List Nat:= [7,8]
end Go.SX
namespace Go.SX
open Go.RowKit
def ji(P:Program){α:Type}:Sem α→Option α
 | .pure a=>some a
 | .program k=>ji P (k P)
 | .mark _ k=>ji P k
 |_=>none
theorem lr(P:Program){α:Type}: ∀ (s:Sem α) (v:α),ji P s=some v→ ∀ w,s.run P w= .ok v w
 | .pure a,v,h,w=>by simp [ji]at h;subst h;rfl
 | .program k,v,h,w=>by simp only [ji]at h;simp only [Sem.run];exact lr P _ v h w
 | .mark _ k,v,h,w=>by simp only [ji]at h;simp only [Sem.run];exact lr P _ v h w
 | .load ..,v,h,w | .store ..,v,h,w | .new ..,v,h,w | .shape ..,v,h,w | .freeze ..,v,h,w | .frozen ..,v,h,w | .getObj ..,v,h,w
 | .setObj ..,v,h,w | .choose ..,v,h,w | .sys ..,v,h,w | .halt _,v,h,w=>by simp [ji]at h
def eM:Value→Value
 | .slice a n c=> .slice a n c
 | .pointer a=> .pointer a
 | .func f a b=> .func f a b
 | .nilFunc=> .nilFunc
 |_=> .slice none 0 0
def CTy.flat:CTy→Bool
 | .pair a b=>a.flat&&b.flat
 | .sl _ _=>false
 | .fn=>false
 |_=>true
def de:(t:CTy)→E t
 | .int _=>(0:Int)
 | .bool=>false
 | .str=>ByteArray.empty
 | .pair a b=>(de a,de b)
 | .sl _ _=> []
 | .fn=>()
def nQ:(t:CTy)→E t→List Value
 | .int k,x=> [.int k x]
 | .bool,b=> [.bool b]
 | .str,s=> [.string s]
 | .pair a b,p=>nQ a p.1++nQ b p.2
 | .sl _ _,_=> [undef]
 | .fn,_=> [undef]
def mB(v:Value):Prop:=v= .slice none 0 0∨ ∃ a,v= .slice (some a) 0 0
def tp{α:Type}(p:List Value→α→Prop)(z:Nat)(H:Nat→Option Obj)(v:Value)(xs:List α):Prop:=
 (mB v∧xs= [])∨
 ∃ b off cap arr T fz,v= .slice (some ⟨b,off,none⟩) xs.length cap∧xs.length≤cap∧cap≤maxLen∧H b=some (.cells arr T fz)∧(∀ i x,xs[i]? =some x→p ((arr.toList.drop (off + i * z)).take z) x)
theorem tp.mono{α:Type}{p p':List Value→α→Prop}{z:Nat}{H H':Nat→Option Obj}(hp: ∀ cs x,p cs x→p' cs x)(h: ∀ b o,H b=some o→H' b=some o){v:Value}{xs:List α}(hr:tp p z H v xs):tp p' z H' v xs:=
 hr.imp id fun⟨b,off,cap,arr,T,fz,h1,h2,h3,h4,h5⟩=>⟨b,off,cap,arr,T,fz,h1,h2,h3,h _ _ h4,fun i x hx=>hp _ _ (h5 i x hx)⟩
def Rep(H:Nat→Option Obj):(t:CTy)→List Value→E t→Prop
 | .int k,cs,(x:Int)=>cs= [.int k x]
 | .bool,cs,(b:Bool)=>cs= [.bool b]
 | .str,cs,(s:ByteArray)=>cs= [.string s]
 | .pair a b,cs,(p:E a×E b)=> ∃ c1 c2,cs=c1++c2∧Rep H a c1 p.1∧Rep H b c2 p.2
 | .sl _ t,cs,(xs:List (E t))=> ∃ v,cs= [v]∧tp (Rep H t) t.size H v xs
 | .fn,cs,_=> ∃ v,cs= [v]∧eM v=v
theorem Rep.mono{H H':Nat→Option Obj}(h: ∀ b o,H b=some o→H' b=some o): ∀ (t:CTy) (cs:List Value) (x:E t),Rep H t cs x→Rep H' t cs x
 | .int _,_,_,hr=>by simp only [Rep]at hr ⊢;exact hr
 | .bool,_,_,hr=>by simp only [Rep]at hr ⊢;exact hr
 | .str,_,_,hr=>by simp only [Rep]at hr ⊢;exact hr
 | .pair a b,_,_,hr=>by
  simp only [Rep]at hr ⊢
  obtain⟨c1,c2,e,h1,h2⟩:=hr
  exact⟨c1,c2,e,Rep.mono h a _ _ h1,Rep.mono h b _ _ h2⟩
 | .sl _ t,_,_,hr=>by
  simp only [Rep]at hr ⊢
  obtain⟨v,e,hv⟩:=hr
  exact⟨v,e,hv.mono (Rep.mono h t) h⟩
 | .fn,_,_,hr=>by simp only [Rep]at hr ⊢;exact hr
def eO(H:Nat→Option Obj)(t:CTy)(v:Value)(xs:List (E t)):Prop:=tp (Rep H t) t.size H v xs
theorem eO.mono{H H':Nat→Option Obj}(h: ∀ b o,H b=some o→H' b=some o){t:CTy}{v:Value}{xs:List (E t)}(hr:eO H t v xs):eO H' t v xs:=
 tp.mono (Rep.mono h t) h hr
theorem Rep.flat{H:Nat→Option Obj}: ∀ (t:CTy) (cs:List Value) (x:E t),t.flat=true→Rep H t cs x→cs=nQ t x
 | .int _,_,_,_,h=>by simp only [Rep]at h;exact h
 | .bool,_,_,_,h=>by simp only [Rep]at h;exact h
 | .str,_,_,_,h=>by simp only [Rep]at h;exact h
 | .pair a b,_,_,hf,h=>by
  simp only [Rep]at h
  obtain⟨c1,c2,e,h1,h2⟩:=h
  simp only [CTy.flat,w3]at hf
  rw [e,Rep.flat a _ _ hf.1 h1,Rep.flat b _ _ hf.2 h2];rfl
 | .sl _ _,_,_,hf,_=>by cases hf
 | .fn,_,_,hf,_=>by cases hf
theorem Rep.of_flat{H:Nat→Option Obj}: ∀ (t:CTy) (x:E t),t.flat=true→Rep H t (nQ t x) x
 | .int _,_,_=>by simp only [Rep];rfl
 | .bool,_,_=>by simp only [Rep];rfl
 | .str,_,_=>by simp only [Rep];rfl
 | .pair a b,p,hf=>by
  simp only [CTy.flat,w3]at hf
  simp only [Rep]
  exact⟨_,_,rfl,Rep.of_flat a p.1 hf.1,Rep.of_flat b p.2 hf.2⟩
 | .sl _ _,_,hf=>by cases hf
 | .fn,_,hf=>by cases hf
def GlOk(mem:Nat→Option Obj):Prop:=(∀ x∈GT,x.xs.length≤maxLen∧ ∃ arr T fz,mem x.g=some (.cells arr T fz)∧arr.size=x.xs.length * x.t.size∧ ∀ i y,x.xs[i]? =some y→Rep mem x.t ((arr.toList.drop (i * x.t.size)).take x.t.size) y)∧ ∀ g∈GV,∃ T fz v,mem g=some (.cells #[v] T fz)∧(v= .nilIface∨ ∃ t p,v= .iface t p)
theorem GlOk.mono{H H':Nat→Option Obj}(h: ∀ b o,H b=some o→H' b=some o)(hg:GlOk H):GlOk H':=⟨fun x hx=>
 let ⟨h0,arr,T,fz,h1,hs,h2⟩:=hg.1 x hx
 ⟨h0,arr,T,fz,h _ _ h1,hs,fun i y hy=>Rep.mono h _ _ _ (h2 i y hy)⟩,fun g hx=>
 let ⟨T,fz,v,h1,h2⟩:=hg.2 g hx
 ⟨T,fz,v,h _ _ h1,h2⟩⟩
structure Nm where
 nm:Nat→Value
 mem:Nat→Option Obj
 fp:Nat→List Nat
def Nm.of(ρ:Nm)(i:Nat):Value:=eM (ρ.nm i)
instance:CoeFun Nm (fun _=>Nat→Value):=⟨Nm.of⟩
theorem ge(v:Value):eM (eM v)=eM v:=by cases v <;> rfl
theorem nG(v:Value):(eM v).oneCell'=true:=by cases v <;> rfl
theorem qE(v:Value):(eM v).cells= #[eM v]:=by cases v <;> rfl
def gu:Value→Nat
 | .pointer (some a)=>a.block
 | .slice (some a) _ _=>a.block
 |_=>0
def lp:Value→Nat
 | .slice (some a) _ _=>a.off
 |_=>0
def az:Value→List Nat
 | .pointer (some a)=> [a.block]
 | .slice (some a) _ c=>bif Nat.beq c 0 then []else [a.block]
 |_=> []
theorem nN{v:Value}(h:mB v):az v= []:=by
 rcases h with rfl | ⟨b,rfl⟩ <;> rfl
theorem bC{a:Addr}{n c:Nat}(h:0 < c):az (.slice (some a) n c)= [a.block]:=by
 cases c with
 |zero=>omega
 |succ c=>rfl
inductive Cell where
 |val (v:Value)
 |ptr (id off:Nat)
 |ref (id:Nat)
 |el (id z i off:Nat)
 |vw (id z k:Nat)
 |clo (f:FuncId) (caps:List Nat)
 |bnd (f:FuncId) (vs:List (Nat×Option Value))
def vwN(z k:Nat):Value→Value
 | .slice b n c=>if z=0 then .slice b k c else .slice (if c=k then b else b.map (·.add (k * z))) (n - k) (c - k)
 |v=>v
def bcV(ρ:Nm):Nat×Option Value→Value
 |(id,none)=>ρ id
 |(_,some v)=>v
def jo:List (Nat×Option Value)→List Nat
 | []=> []
 |(id,none)::r=>id::jo r
 |(_,some _)::r=>jo r
theorem nM{ρ ρ':Nm}: ∀ {vs:List (Nat×Option Value)},(∀ id∈jo vs,ρ' id=ρ id)→vs.map (bcV ρ')=vs.map (bcV ρ)
 | [],_=>rfl
 |(id,none)::r,h=>by
  rw [w9,w9,nM (vs:=r) fun i hi=>h i (List.mem_cons_of_mem _ hi)]
  simp only [bcV,h id (List.mem_cons_self ..)]
 |(id,some v)::r,h=>by
  rw [w9,w9,nM (vs:=r) fun i hi=>h i hi]
  rfl
def Cell.conc(ρ:Nm):Cell→Value
 | .val v=>v
 | .ptr id off=> .pointer (some ⟨gu (ρ id),off,none⟩)
 | .ref id=>ρ id
 | .el id z i off=> .pointer (some ⟨gu (ρ id),lp (ρ id) + (i * z + off),none⟩)
 | .vw id z k=>eM (vwN z k (ρ id))
 | .clo f caps=> .func (.func f) #[] (caps.map fun id=>Value.pointer (some ⟨gu (ρ id),0,none⟩)).toArray
 | .bnd f vs=> .func (.func f) #[.agg (vs.map (bcV ρ)).toArray] #[]
def Cell.inU(U:Nat→Bool):Cell→Prop
 | .val _=>True
 | .ptr id _=>U id=true
 | .ref id=>U id=true
 | .el id _ _ _=>U id=true
 | .vw id _ _=>U id=true
 | .clo _ caps=> ∀ id∈caps,U id=true
 | .bnd _ vs=> ∀ id∈jo vs,U id=true
theorem Cell.conc_congr{ρ ρ':Nm}{U:Nat→Bool}(h: ∀ id,U id=true→ρ' id=ρ id){c:Cell}(hc:c.inU U):c.conc ρ'=c.conc ρ:=by
 cases c with
 |val v=>rfl
 |ptr id off=>simp only [Cell.conc];rw [h id hc]
 |ref id=>exact h id hc
 |el id z i off=>simp only [Cell.conc];rw [h id hc]
 |vw id z k=>simp only [Cell.conc];rw [h id hc]
 |clo f caps=>
  simp only [Cell.conc]
  rw [List.map_congr_left fun id aR=>by rw [h id (hc id aR)]]
 |bnd f vs=>
  simp only [Cell.conc]
  rw [nM fun id aR=>h id (hc id aR)]
theorem Cell.inU_mono{U U':Nat→Bool}(h: ∀ id,U id=true→U' id=true){c:Cell}(hc:c.inU U):c.inU U':=by
 cases c with
 |val v=>trivial
 |ptr id off=>exact h id hc
 |ref id=>exact h id hc
 |el id z i off=>exact h id hc
 |vw id z k=>exact h id hc
 |clo f caps=>exact fun id aR=>h id (hc id aR)
 |bnd f vs=>exact fun id aR=>h id (hc id aR)
structure V1 where
 agg:Bool
 cs:List Cell
def V1.conc(ρ:Nm)(v:V1):Value:=
 match v.agg,v.cs with
 |true,cs=> .agg (cs.map (Cell.conc ρ)).toArray
 |false,[c]=>c.conc ρ
 |false,_=>undef
def V1.inU(U:Nat→Bool)(v:V1):Prop:= ∀ c∈v.cs,c.inU U
theorem ch{ρ ρ':Nm}{U:Nat→Bool}(h: ∀ id,U id=true→ρ' id=ρ id){cs:List Cell}(hc: ∀ c∈cs,c.inU U):cs.map (Cell.conc ρ')=cs.map (Cell.conc ρ):=
 List.map_congr_left fun c hm=>Cell.conc_congr h (hc c hm)
theorem V1.conc_congr{ρ ρ':Nm}{U:Nat→Bool}(h: ∀ id,U id=true→ρ' id=ρ id){v:V1}(hc:v.inU U):v.conc ρ'=v.conc ρ:=by
 obtain⟨g,cs⟩:=v
 cases g with
 |true=>simp only [V1.conc];rw [ch h hc]
 |false=>
  match cs,hc with
  | [],_=>rfl
  | [c],hc=>exact Cell.conc_congr h (hc c (by simp))
  |_::_::_,_=>rfl
inductive SV where
 |one (v:V1)
 |tup (vs:List V1)
def SV.conc(ρ:Nm):SV→Value
 | .one v=>v.conc ρ
 | .tup vs=> .tuple (vs.map (V1.conc ρ)).toArray
def SV.inU(U:Nat→Bool):SV→Prop
 | .one v=>v.inU U
 | .tup vs=> ∀ v∈vs,v.inU U
theorem SV.conc_congr{ρ ρ':Nm}{U:Nat→Bool}(h: ∀ id,U id=true→ρ' id=ρ id){v:SV}(hc:v.inU U):v.conc ρ'=v.conc ρ:=by
 cases v with
 |one v=>exact V1.conc_congr h hc
 |tup vs=>simp only [SV.conc];rw [List.map_congr_left fun v hv=>V1.conc_congr h (hc v hv)]
theorem V1.inU_mono{U U':Nat→Bool}(h: ∀ id,U id=true→U' id=true){v:V1}(hc:v.inU U):v.inU U':=fun c hm=>Cell.inU_mono h (hc c hm)
theorem SV.inU_mono{U U':Nat→Bool}(h: ∀ id,U id=true→U' id=true){v:SV}(hc:v.inU U):v.inU U':=by
 cases v with
 |one v=>exact V1.inU_mono h hc
 |tup vs=>exact fun v hv=>V1.inU_mono h (hc v hv)
def V1.ofValue:Value→V1
 | .agg a=>⟨true,a.toList.map .val⟩
 |v=>⟨false,[.val v]⟩
def SV.ofValue:Value→SV
 | .tuple a=> .tup (a.toList.map V1.ofValue)
 |v=> .one (V1.ofValue v)
theorem V1.conc_ofValue(ρ:Nm)(v:Value):(V1.ofValue v).conc ρ=v:=by
 cases v with
 |agg a=>
  simp only [V1.ofValue,V1.conc,List.map_map]
  congr 1
  rw [show (Cell.conc ρ ∘ Cell.val)=id from rfl,List.map_id]
 |_=>rfl
theorem V1.ofValue_inU(U:Nat→Bool)(v:Value):(V1.ofValue v).inU U:=by
 cases v with
 |agg a=>intro c hc;simp only [V1.ofValue,List.mem_map]at hc;obtain⟨x,_,rfl⟩:=hc;trivial
 |_=>intro c hc;simp only [V1.ofValue,zK]at hc;subst hc;trivial
theorem SV.conc_ofValue(ρ:Nm)(v:Value):(SV.ofValue v).conc ρ=v:=by
 cases v with
 |tuple a=>
  simp only [SV.ofValue,SV.conc,List.map_map]
  congr 1
  rw [show (V1.conc ρ ∘ V1.ofValue)=id from funext fun v=>V1.conc_ofValue ρ v,List.map_id]
 |_=>simp only [SV.ofValue,SV.conc];exact V1.conc_ofValue ρ _
theorem SV.ofValue_inU(U:Nat→Bool)(v:Value):(SV.ofValue v).inU U:=by
 cases v with
 |tuple a=>intro u hu;simp only [List.mem_map]at hu;obtain⟨x,_,rfl⟩:=hu;exact V1.ofValue_inU U x
 |_=>simp only [SV.ofValue,SV.inU];exact V1.ofValue_inU U _
def Cell.toValue? :Cell→Option Value
 | .val v=>some v
 |_=>none
def jS:List Cell→Option (List Value)
 | []=>some []
 |c::cs=>match c.toValue?,jS cs with
  |some v,some vs=>some (v::vs)
  |_,_=>none
theorem ic(ρ:Nm): ∀ {cs:List Cell} {vs:List Value},jS cs=some vs→cs.map (Cell.conc ρ)=vs
 | [],vs,h=>by simp [jS]at h;simp [h]
 |c::cs,vs,h=>by
  simp only [jS]at h
  split at h
  ·rename_i v vs' hv rf
   cases h
   simp only [w9,ic ρ rf]
   cases c with
   |val u=>simp [Cell.toValue?]at hv;simp [Cell.conc,hv]
   |_=>simp [Cell.toValue?]at hv
  ·cases h
def V1.toValue?(v:V1):Option Value:=
 match v.agg,v.cs with
 |true,cs=>(jS cs).map fun vs=> .agg vs.toArray
 |false,[.val v]=>some v
 |_,_=>none
theorem V1.toValue?_conc(ρ:Nm){v:V1}{x:Value}(h:v.toValue? =some x):v.conc ρ=x:=by
 obtain⟨g,cs⟩:=v
 simp only [V1.toValue?]at h
 split at h
 ·cases hv:jS cs with
  |none=>simp [hv]at h
  |some vs=>simp [hv]at h;subst h;simp only [V1.conc,ic ρ hv]
 ·cases h;rfl
 ·cases h
def SV.toValue? :SV→Option Value
 | .one v=>v.toValue?
 | .tup _=>none
theorem SV.toValue?_conc(ρ:Nm){v:SV}{x:Value}(h:v.toValue? =some x):v.conc ρ=x:=by
 cases v with
 |one v=>exact V1.toValue?_conc ρ h
 |tup vs=>simp [SV.toValue?]at h
structure SS where
 g:Option (Nat×Bool)
 v:SV
def yl(tmps:Array Value)(j:Nat):Option Bool:=
 match tmps[j]? with
 |some (.bool b)=>some b
 |_=>none
def SS.at(ρ:Nm)(tmps:Array Value)(x:SS):Value:=
 match x.g with
 |none=>x.v.conc ρ
 |some (j,b)=>if yl tmps j=some b then x.v.conc ρ else undef
inductive Entry where
 |box (T:TypeId) (cs:List Cell)
 |row (own:Bool) (e:TypeId) (t:CTy) (xs:List (E t))
 |tree (e:TypeId) (t:CTy) (xs:List (E t)) (hole:Option (Nat×List Cell))
 |wk (e:TypeId) (t:CTy) (xs:List (E t))
 |gone
structure St where
 look:Nat→Option SS
 ent:Nat→Option Entry
 used:Nat→Bool
 wr:Nat→Bool
 next:Nat
 log:List Nat
 logE:List Nat
structure Base where
 n:Nat
 w0:World
 mem:Nat→Option Obj
 sl:Nat→Option Value
 W:Nat→Bool
 hW: ∀ k,W k=true→k < n∧sl k=none
def aU(H:Nat→Option Obj)(t:CTy)(cs:List Value)(xs:List (E t)):Prop:=cs.length=xs.length * t.size∧ ∀ i x,xs[i]? =some x→Rep H t ((cs.drop (i * t.size)).take t.size) x
theorem aU.mono{H H':Nat→Option Obj}(h: ∀ b o,H b=some o→H' b=some o){t:CTy}{cs:List Value}{xs:List (E t)}(hr:aU H t cs xs):aU H' t cs xs:=
 ⟨hr.1,fun i x hx=>Rep.mono h _ _ _ (hr.2 i x hx)⟩
def dQ(w:World)(e:TypeId)(z:Nat)(v:Value)(n:Nat)(cs:List Value):Prop:=cs.length=n * z∧((mB v∧n=0)∨ ∃ g cap cur,v= .slice (some ⟨g,0,none⟩) n cap∧0 < cap∧w.heap[g]? =some (.cells cur e (0,0))∧n≤cap∧cap≤maxLen∧cur.size=cap * z∧cur.toList.take (n * z)=cs)
theorem gO{w:World}{base:Nat}{e:TypeId}{z:Nat}{v:Value}{n:Nat}{cs:List Value}(h:w.ownsRow base e z v n cs):dQ w e z v n cs:=by
 refine⟨h.1,?_⟩
 rcases h.2 with⟨h1,h2⟩ | ⟨g,cap,cur,h1,_,h2,h3,h4,h5,h6⟩
 ·exact .inl ⟨.inl h1,h2⟩
 ·by_cases hc:cap=0
  ·subst hc
   have:n=0:=by omega
   subst this
   exact .inl ⟨.inr ⟨_,h1⟩,rfl⟩
  ·exact .inr ⟨g,cap,cur,h1,by omega,h2,h3,h4,h5,h6⟩
theorem uE{w:World}{e:TypeId}{z:Nat}{v:Value}{n:Nat}{cs:List Value}(h:dQ w e z v n cs):(mB v∧n=0∧cs= [])∨(w.ownsRow 0 e z v n cs∧ ∃ g cap,v= .slice (some ⟨g,0,none⟩) n cap∧0 < cap):=by
 rcases h.2 with⟨h1,h2⟩ | ⟨g,cap,cur,h1,h0,h2,h3,h4,h5,h6⟩
 ·refine .inl ⟨h1,h2,List.length_eq_zero_iff.1 ?_⟩
  rw [h.1,h2,Nat.zero_mul]
 ·exact .inr ⟨⟨h.1,.inr ⟨g,cap,cur,h1,Nat.zero_le _,h2,h3,h4,h5,h6⟩⟩,g,cap,h1,h0⟩
theorem jF(w:World)(e:TypeId)(z:Nat):dQ w e z (.slice none 0 0) 0 []:=⟨by simp,.inl ⟨.inl rfl,rfl⟩⟩
def bq(w:World):(t:CTy)→List Value→E t→List Nat→Prop
 | .int k,cs,(x:Int),L=>cs= [.int k x]∧L= []
 | .bool,cs,(b:Bool),L=>cs= [.bool b]∧L= []
 | .str,cs,(s:ByteArray),L=>cs= [.string s]∧L= []
 | .pair a b,cs,(p:E a×E b),L=> ∃ c1 c2 L1 L2,cs=c1++c2∧L=L1++L2∧bq w a c1 p.1 L1∧bq w b c2 p.2 L2∧ ∀ k∈L1,k∉L2
 | .sl e t,cs,(xs:List (E t)),L=> ∃ v ds,cs= [v]∧L=az v∧t.flat=true∧dQ w e t.size v xs.length ds∧aU (fun _=>none) t ds xs
 | .fn,cs,_,L=>(∃ v,cs= [v]∧eM v=v)∧L= []
def hP(w:World)(ρ:Nm)(t:CTy)(cs:List Value)(xs:List (E t))(Ls:List (List Nat))(h:Option (Nat×List Cell)):Prop:=Ls.length=xs.length∧(∀ k hc,h=some (k,hc)→k < xs.length∧Ls[k]? =some []∧(cs.drop (k * t.size)).take t.size=hc.map (Cell.conc ρ))∧(∀ i x l,(∀ k hc,h=some (k,hc)→i≠k)→xs[i]? =some x→Ls[i]? =some l→bq w t ((cs.drop (i * t.size)).take t.size) x l)∧(∀ (i j:Nat) l l' k,Ls[i]? =some l→Ls[j]? =some l'→k∈l→k∈l'→i=j)
def bp{α:Type}:List (List α)→List α
 | []=> []
 |a::r=>a++bp r
theorem bh{α:Type}{i:α}: ∀ {l:List (List α)},i∈bp l↔ ∃ (k:Nat) (x:List α),l[k]? =some x∧i∈x
 | []=>by simp [bp]
 |a::r=>by
  simp only [bp,w8,bh (l:=r)]
  constructor
  ·rintro(h | ⟨k,x,h1,h2⟩)
   ·exact⟨0,a,rfl,h⟩
   ·exact⟨k + 1,x,h1,h2⟩
  ·rintro⟨k,x,h1,h2⟩
   cases k with
   |zero=>simp at h1;subst h1;exact .inl h2
   |succ k=>exact .inr ⟨k,x,h1,h2⟩
def qS(w:World)(b:Nat):Option Obj:=
 match w.heap[b]? with
 |some (.cells a T (0,0))=>some (.cells a T (0,0))
 |_=>none
def unf(o:Obj):Prop:= ∃ a T,o= .cells a T (0,0)
theorem lK{w:World}{b:Nat}{o:Obj}:qS w b=some o↔w.heap[b]? =some o∧unf o:=by
 unfold qS
 constructor
 ·intro h
  split at h
  ·rename_i a T hb;cases h;exact⟨hb,a,T,rfl⟩
  ·cases h
 ·rintro⟨h,a,T,rfl⟩
  simp [h]
theorem wF{w w':World}{t:CTy}{v:Value}{xs:List (E t)}(hf:t.flat=true)(h:eO (qS w) t v xs)(hk: ∀ b∈az v,w'.heap[b]? =w.heap[b]?):eO (qS w') t v xs:=by
 rcases h with h | ⟨b,off,cap,arr,T,fz,h1,h2,h3,h4,h5⟩
 ·exact .inl h
 ·by_cases hc:cap=0
  ·subst hc
   have hn:xs.length=0:=by omega
   exact .inl ⟨.inr ⟨_,by rw [h1,hn]⟩,List.length_eq_zero_iff.1 hn⟩
  ·refine .inr ⟨b,off,cap,arr,T,fz,h1,h2,h3,?_,fun i x hx=> ?_⟩
   ·obtain⟨g1,g2⟩:=lK.1 h4
    exact lK.2 ⟨by rw [hk b (by rw [h1,bC (by omega)];simp)];exact g1,g2⟩
   ·rw [Rep.flat t _ _ hf (h5 i x hx)]
    exact Rep.of_flat t x hf
theorem vX{w:World}{t:CTy}{v:Value}{xs:List (E t)}(h:eO (qS w) t v xs){b:Nat}(hb:b∈az v): ∃ o,w.heap[b]? =some o∧unf o:=by
 rcases h with⟨h,_⟩ | ⟨b',off,cap,arr,T,fz,h1,h2,h3,h4,h5⟩
 ·rw [nN h]at hb;cases hb
 ·rw [h1]at hb
  have hbb:b=b':=by
   simp only [az]at hb
   cases hq:Nat.beq cap 0 with
   |true=>rw [hq]at hb;cases hb
   |false=>rw [hq]at hb;simpa using hb
  subst hbb
  exact⟨_,lK.1 h4⟩
def Entry.holds(B:Base)(ρ:Nm)(w:World)(id:Nat):Entry→Prop
 | .box T cs=> ∃ b,ρ id= .pointer (some ⟨b,0,none⟩)∧w.heap[b]? =some (.cells (cs.map (Cell.conc ρ)).toArray T (0,0))∧B.mem b=none∧ρ.mem b=none
 | .row false _ t xs=>eO ρ.mem t (ρ id) xs
 | .row true e t xs=> ∃ cs,dQ w e t.size (ρ id) xs.length cs∧aU ρ.mem t cs xs∧ ∀ b∈az (ρ id),B.mem b=none∧ρ.mem b=none
 | .tree e t xs h=> ∃ cs Ls,dQ w e t.size (ρ id) xs.length cs∧hP w ρ t cs xs Ls h∧ρ.fp id=bp Ls∧(∀ b∈az (ρ id),b∉ρ.fp id)∧ ∀ b∈az (ρ id)++ρ.fp id,B.mem b=none∧ρ.mem b=none
 | .wk _ t xs=>t.flat=true∧eO (qS w) t (ρ id) xs∧ ∀ b∈az (ρ id),B.mem b=none∧ρ.mem b=none
 | .gone=>True
def Entry.ob(ρ:Nm)(id:Nat):Entry→List Nat
 | .box _ _=>az (ρ id)
 | .row true _ _ _=>az (ρ id)
 | .tree _ _ _ _=>az (ρ id)++ρ.fp id
 | .wk _ _ _=>az (ρ id)
 |_=> []
def Entry.inU(U:Nat→Bool):Entry→Prop
 | .box _ cs=> ∀ c∈cs,c.inU U
 | .tree _ _ _ (some (_,cs))=> ∀ c∈cs,c.inU U
 |_=>True
structure Frm (B:Base) (ρ:Nm) (w:World):Prop where
 os:w.os=B.w0.os
 tape:w.tape=B.w0.tape
 output:w.output=B.w0.output
 size:B.w0.heap.size≤w.heap.size
 mem: ∀ b o,B.mem b=some o→w.heap[b]? =some o
 dat: ∀ b o,ρ.mem b=some o→w.heap[b]? =some o
 gl:GlOk ρ.mem
structure Ext (B:Base) (U:Nat→Bool) (ρ ρ':Nm):Prop where
 nm: ∀ id,U id=true→ρ' id=ρ id
 old: ∀ b o,ρ.mem b=some o→ρ'.mem b=some o
 new: ∀ b o,ρ'.mem b=some o→ρ.mem b=some o∨(B.mem b=none∧unf o)
theorem Ext.refl(B:Base)(U:Nat→Bool)(ρ:Nm):Ext B U ρ ρ:=⟨fun _ _=>rfl,fun _ _ h=>h,fun _ _ h=> .inl h⟩
theorem Ext.trans{B:Base}{U U':Nat→Bool}{ρ ρ' ρ'':Nm}(h:Ext B U ρ ρ')(h':Ext B U' ρ' ρ'')(hU: ∀ id,U id=true→U' id=true):Ext B U ρ ρ'':=
 ⟨fun id aR=>(h'.nm id (hU id aR)).trans (h.nm id aR),fun b o hb=>h'.old b o (h.old b o hb),fun b o hb=>(h'.new b o hb).elim (h.new b o) .inr⟩
theorem Ext.sub{B:Base}{U U':Nat→Bool}{ρ ρ':Nm}(h:Ext B U' ρ ρ')(hU: ∀ id,U id=true→U' id=true):Ext B U ρ ρ':=
 ⟨fun id aR=>h.nm id (hU id aR),h.old,h.new⟩
structure Hp (B:Base) (ρ:Nm) (ent:Nat→Option Entry) (used:Nat→Bool) (w:World):Prop where
 he: ∀ id e,ent id=some e→e.holds B ρ w id∧used id=true∧e.inU used
 hi: ∀ id id' e e' b,ent id=some e→ent id'=some e'→b∈e.ob ρ id→b∈e'.ob ρ id'→id=id'
 hf:Frm B ρ w
structure Mdl (B:Base) (ρ:Nm) (s:St) (a:Act) (w:World):Prop where
 hd:a.defers= []
 hn:a.tmps.size=B.n
 hs: ∀ k x,s.look k=some x→a.tmps[k]? =some (x.at ρ a.tmps)
 hg: ∀ k x j b,s.look k=some x→x.g=some (j,b)→s.wr j=true
 hu: ∀ k x,s.look k=some x→x.v.inU s.used
 hp:Hp B ρ s.ent s.used w
 hl: ∀ k v,B.sl k=some v→a.tmps[k]? =some v
theorem xh{a:Act}{k:Nat}{v:Value}{j:Nat}(h:j≠k):yl (a.put (some k) v).tmps j=yl a.tmps j:=by
 simp only [yl,Act.put,Array.getElem?_setIfInBounds_ne (Ne.symm h)]
theorem SS.at_congr{ρ ρ':Nm}{U:Nat→Bool}{t t':Array Value}{x:SS}(h: ∀ id,U id=true→ρ' id=ρ id)(hc:x.v.inU U)(hy: ∀ j b,x.g=some (j,b)→yl t' j=yl t j):x.at ρ' t'=x.at ρ t:=by
 obtain⟨g,v⟩:=x
 cases g with
 |none=>exact SV.conc_congr h hc
 |some p=>obtain⟨j,b⟩:=p;simp only [SS.at,hy j b rfl,SV.conc_congr h hc]
end Go.SX
namespace Go.SX
open Go.RowKit
theorem Mdl.he{B:Base}{ρ:Nm}{s:St}{a:Act}{w:World}(h:Mdl B ρ s a w): ∀ id e,s.ent id=some e→e.holds B ρ w id∧s.used id=true∧e.inU s.used:=h.hp.he
def memB(w0:World)(mem:Nat→Option Obj):Base:=⟨0,w0,mem,fun _=>none,fun _=>false,fun _ h=>by cases h⟩
def HpL(w0:World)(mem:Nat→Option Obj)(es:List Entry)(ρ:Nm)(w:World):Prop:=Hp (memB w0 mem) ρ (fun i=>es[i]?) (fun i=>Nat.blt i es.length) w
structure Out where
 res:SV
 es:List Entry
 new:List Entry
 nd:List Bool
structure PF (P:Program) where
 k:FuncId
 F:List SV→List Entry→Option Out
 ok: ∀ args es o,F args es=some o→(∀ b∈o.nd,b=true)→ ∀ (mem:Nat→Option Obj) (ρ:Nm) (w:World),HpL w mem es ρ w→
  Calls P k (args.map (SV.conc ρ)).toArray w fun e w'=> ∃ ρ':Nm,Ext (memB w mem) (fun i=>Nat.blt i es.length) ρ ρ'∧e= .returned (o.res.conc ρ')∧o.es.length=es.length∧
   o.res.inU (fun i=>Nat.blt i (o.es++o.new).length)∧HpL w mem (o.es++o.new) ρ' w'
 keep:List Nat:= []
 hk: ∀ args es o,F args es=some o→(∀ b∈o.nd,b=true)→ ∀ i∈keep,o.es[i]? =es[i]? :=by intro _ _ _ _ _ _ h;cases h
def PF.mark(P:Program):PF P where
 k:=999999
 F:=fun _ _=>none
 ok:=fun _ _ _ h=>by cases h
def PF.marked{P:Program}:List (PF P)→Bool
 | []=>false
 |p::_=>Nat.beq p.k 999999
def PF.treed{P:Program}:List (PF P)→Bool
 | []=>false
 |p::r=>Nat.beq p.k 999998||(Nat.beq p.k 999999&&(match r with | q::_=>Nat.beq q.k 999998 | []=>false))
def PF.take(P:Program):PF P where
 k:=999995
 F:=fun _ _=>none
 ok:=fun _ _ _ h=>by cases h
def PF.takes{P:Program}:List (PF P)→Bool
 |_::q::_=>Nat.beq q.k 999995
 |_=>false
def jV{P:Program}:List (PF P)→FuncId→List SV→List Entry→Option (Out×List Nat)
 | [],_,_,_=>none
 |p::r,k,args,es=>bif Nat.beq p.k k then(match p.F args es with | some o=>some (o,p.keep) | none=>jV r k args es)else jV r k args es
theorem nP{P:Program}: ∀ {l:List (PF P)} {k:FuncId} {args:List SV} {es:List Entry} {o:Out} {kp:List Nat},jV l k args es=some (o,kp)→(∀ b∈o.nd,b=true)→ ∀ (mem:Nat→Option Obj) (ρ:Nm) (w:World),HpL w mem es ρ w→
  Calls P k (args.map (SV.conc ρ)).toArray w fun e w'=> ∃ ρ':Nm,Ext (memB w mem) (fun i=>Nat.blt i es.length) ρ ρ'∧e= .returned (o.res.conc ρ')∧o.es.length=es.length∧
   o.res.inU (fun i=>Nat.blt i (o.es++o.new).length)∧HpL w mem (o.es++o.new) ρ' w'
 | [],k,args,es,o,kp,h=>by simp [jV]at h
 |p::r,k,args,es,o,kp,h=>by
  simp only [jV]at h
  cases hq:Nat.beq p.k k with
  |true=>
   simp only [hq,cond_true]at h
   have hk:=q8 hq
   split at h
   ·rename_i o' ho'
    cases h
    subst hk
    exact p.ok _ _ _ ho'
   ·exact nP h
  |false=>simp only [hq,cond_false]at h;exact nP h
theorem kX{P:Program}: ∀ {l:List (PF P)} {k:FuncId} {args:List SV} {es:List Entry} {o:Out} {kp:List Nat},jV l k args es=some (o,kp)→(∀ b∈o.nd,b=true)→ ∀ i∈kp,o.es[i]? =es[i]?
 | [],k,args,es,o,kp,h=>by simp [jV]at h
 |p::r,k,args,es,o,kp,h=>by
  simp only [jV]at h
  cases hq:Nat.beq p.k k with
  |true=>
   simp only [hq,cond_true]at h
   split at h
   ·rename_i o' ho'
    cases h
    exact p.hk _ _ _ ho'
   ·exact kX h
  |false=>simp only [hq,cond_false]at h;exact kX h
def look?{α:Type}:List (Nat×α)→Nat→Option α
 | [],_=>none
 |p::r,k=>bif Nat.beq p.1 k then some p.2 else look? r k
def memN:List Nat→Nat→Bool
 | [],_=>false
 |p::r,k=>bif Nat.beq p k then true else memN r k
structure Raw where
 v:SV
 es:List (Nat×Entry)
 new:List Nat
 nd:List Bool
def ae(ent:Nat→Option Entry)(es:List (Nat×Entry)):Nat→Option Entry:=fun i=>match look? es i with | some e=>some e | none=>ent i
def ag(used:Nat→Bool)(new:List Nat):Nat→Bool:=fun i=>bif memN new i then true else used i
def ev(look:Nat→Option SS)(A:List (Nat×Bool)):Operand→Option SV
 | .tmp t=>match look t with
  |some ⟨none,v⟩=>some v
  |some ⟨some p,v⟩=>bif A.any (fun q=>Nat.beq q.1 p.1&&q.2==p.2)then some v else none
  |none=>none
 | .const v=>some (.ofValue v)
 | .func f=>some (.one ⟨false,[.val (.func (.func f) #[] #[])]⟩)
 | .global _=>none
def asm(s:St):Nat→Option (Nat×Bool)→List (Nat×Bool)
 |_,none=> []
 |0,some _=> []
 |f + 1,some p=>p::asm s f (match s.look p.1 with | some x=>x.g | none=>none)
theorem nL{B:Base}{ρ:Nm}{s:St}{a:Act}{w:World}(hM:Mdl B ρ s a w): ∀ (f:Nat) (g:Option (Nat×Bool)),(∀ p,g=some p→yl a.tmps p.1=some p.2)→ ∀ q∈asm s f g,yl a.tmps q.1=some q.2
 |_,none,_,q,hq=>by cases ‹Nat› <;> simp [asm]at hq
 |0,some p,_,q,hq=>by simp [asm]at hq
 |f + 1,some p,h,q,hq=>by
  simp only [asm,List.mem_cons]at hq
  rcases hq with rfl | hq
  ·exact h _ rfl
  ·refine nL hM f _ (fun p' hp'=> ?_) q hq
   cases hx:s.look p.1 with
   |none=>simp [hx]at hp'
   |some x=>
    simp only [hx]at hp'
    have hs:=hM.hs _ _ hx
    have hy:=h p rfl
    simp only [yl,hs]at hy
    obtain⟨g,v⟩:=x
    simp only at hp'
    subst hp'
    simp only [SS.at]at hy
    split at hy
    ·rename_i hY
     split at hY
     ·assumption
     ·simp [undef]at hY
    ·cases hy
theorem pt{B:Base}{ρ:Nm}{s:St}{a:Act}{w:World}(hM:Mdl B ρ s a w){look:Nat→Option SS}(hL: ∀ k x,look k=some x→s.look k=some x){A:List (Nat×Bool)}(hA: ∀ q∈A,yl a.tmps q.1=some q.2){x:Operand}{v:SV}(h:ev look A x=some v):a.eval x=v.conc ρ:=by
 cases x with
 |tmp t=>
  simp only [ev]at h
  cases hx:look t with
  |none=>simp [hx]at h
  |some x=>
   have hs:=hM.hs _ _ (hL _ _ hx)
   obtain⟨g,u⟩:=x
   simp only [hx]at h
   cases g with
   |none=>
    simp at h;subst h
    simp [Act.eval,hs,SS.at]
   |some p=>
    simp only at h
    cases hb:A.any (fun q=>Nat.beq q.1 p.1&&q.2==p.2)with
    |false=>simp [hb]at h
    |true=>
     simp [hb]at h;subst h
     obtain⟨q,hq,hqp⟩:=List.any_eq_true.1 hb
     simp only [w3,beq_iff_eq]at hqp
     have h1:=q8 hqp.1
     have:=hA q hq
     rw [h1,hqp.2]at this
     simp [Act.eval,hs,SS.at,this]
 |const v'=>simp only [ev,q9]at h;subst h;simp [Act.eval,SV.conc_ofValue]
 |func f=>simp only [ev,q9]at h;subst h;rfl
 |global g=>simp [ev]at h
theorem wR{B:Base}{ρ:Nm}{s:St}{a:Act}{w:World}(hM:Mdl B ρ s a w){look:Nat→Option SS}(hL: ∀ k x,look k=some x→s.look k=some x){A:List (Nat×Bool)}{x:Operand}{v:SV}(h:ev look A x=some v):v.inU s.used:=by
 cases x with
 |tmp t=>
  simp only [ev]at h
  cases hx:look t with
  |none=>simp [hx]at h
  |some x=>
   have hs:=hM.hu _ _ (hL _ _ hx)
   obtain⟨g,u⟩:=x
   simp only [hx]at h
   cases g with
   |none=>simp at h;subst h;exact hs
   |some p=>
    simp only at h
    cases hb:A.any (fun q=>Nat.beq q.1 p.1&&q.2==p.2)with
    |false=>simp [hb]at h
    |true=>simp [hb]at h;subst h;exact hs
 |const v'=>simp only [ev,q9]at h;subst h;exact SV.ofValue_inU _ _
 |func f=>simp only [ev,q9]at h;subst h;intro c hc;simp only [zK]at hc;subst hc;trivial
 |global g=>simp [ev]at h
def jD(c:Bool):Value→Value→Option Value
 | .int k x,.int k' y=>if k=k' then some (.int k (cond c x y))else none
 | .bool x,.bool y=>some (.bool (cond c x y))
 | .string x,.string y=>some (.string (cond c x y))
 |_,_=>none
theorem qp{c:Bool}{a b v:Value}(h:jD c a b=some v):v=cond c a b:=by
 unfold jD at h
 split at h
 ·split at h
  ·rename_i hk;subst hk;cases h;cases c <;> rfl
  ·cases h
 ·cases h;cases c <;> rfl
 ·cases h;cases c <;> rfl
 ·cases h
def gA(c:Bool):Cell→Cell→Option Cell
 | .val a,.val b=>(jD c a b).map .val
 | .ptr i o,.ptr i' o'=>bif Nat.beq i i'&&Nat.beq o o' then some (.ptr i o)else none
 | .ref i,.ref i'=>bif Nat.beq i i' then some (.ref i)else none
 |_,_=>none
theorem pg(ρ:Nm){c:Bool}{a b v:Cell}(h:gA c a b=some v):v.conc ρ=cond c (a.conc ρ) (b.conc ρ):=by
 unfold gA at h
 split at h
 ·rename_i x y
  cases hm:jD c x y with
  |none=>simp [hm]at h
  |some u=>simp [hm]at h;subst h;simp only [Cell.conc];exact qp hm
 ·rename_i i o i' o'
  cases hb:(Nat.beq i i'&&Nat.beq o o')with
  |false=>simp [hb]at h
  |true=>
   simp [hb]at h;subst h
   simp only [w3]at hb
   rw [q8 hb.1,q8 hb.2];cases c <;> rfl
 ·rename_i i i'
  cases hb:Nat.beq i i' with
  |false=>simp [hb]at h
  |true=>
   simp [hb]at h;subst h
   rw [q8 hb];cases c <;> rfl
 ·cases h
theorem qN{U:Nat→Bool}{c:Bool}{a b v:Cell}(ha:a.inU U)(h:gA c a b=some v):v.inU U:=by
 unfold gA at h
 split at h
 ·rename_i x y
  cases hm:jD c x y with
  |none=>simp [hm]at h
  |some u=>simp [hm]at h;subst h;trivial
 ·rename_i i o i' o'
  cases hb:(Nat.beq i i'&&Nat.beq o o')with
  |false=>simp [hb]at h
  |true=>simp [hb]at h;subst h;exact ha
 ·rename_i i i'
  cases hb:Nat.beq i i' with
  |false=>simp [hb]at h
  |true=>simp [hb]at h;subst h;exact ha
 ·cases h
def aQ(c:Bool):List Cell→List Cell→Option (List Cell)
 | [],[]=>some []
 |a::as,b::bs=>match gA c a b,aQ c as bs with
  |some x,some xs=>some (x::xs)
  |_,_=>none
 |_,_=>none
theorem dc(ρ:Nm){c:Bool}: ∀ {as bs vs:List Cell},aQ c as bs=some vs→vs.map (Cell.conc ρ)=cond c (as.map (Cell.conc ρ)) (bs.map (Cell.conc ρ))∧vs.length=as.length∧vs.length=bs.length
 | [],[],vs,h=>by simp [aQ]at h;subst h;cases c <;> exact⟨rfl,rfl,rfl⟩
 | [],_::_,vs,h=>by simp [aQ]at h
 |_::_,[],vs,h=>by simp [aQ]at h
 |a::as,b::bs,vs,h=>by
  simp only [aQ]at h
  split at h
  ·rename_i x xs hx to
   cases h
   obtain⟨h1,h2,h3⟩:=dc ρ to
   have h0:=pg ρ hx
   refine⟨?_,by simp [h2],by simp [h3]⟩
   simp only [w9,h0,h1];cases c <;> rfl
  ·cases h
theorem gj{U:Nat→Bool}{c:Bool}: ∀ {as bs vs:List Cell},(∀ x∈as,x.inU U)→aQ c as bs=some vs→ ∀ x∈vs,x.inU U
 | [],[],vs,_,h=>by simp [aQ]at h;subst h;simp
 | [],_::_,vs,_,h=>by simp [aQ]at h
 |_::_,[],vs,_,h=>by simp [aQ]at h
 |a::as,b::bs,vs,ha,h=>by
  simp only [aQ]at h
  split at h
  ·rename_i x xs hx to
   cases h
   intro y hy
   rcases List.mem_cons.1 hy with rfl | hy
   ·exact qN (ha _ (by simp)) hx
   ·exact gj (fun z hz=>ha z (by simp [hz])) to y hy
  ·cases h
def fG(c:Bool)(a b:V1):Option V1:=
 match a.agg,b.agg with
 |true,true=>(aQ c a.cs b.cs).map (⟨true,·⟩)
 |false,false=>(aQ c a.cs b.cs).map (⟨false,·⟩)
 |_,_=>none
theorem mv(ρ:Nm){c:Bool}{a b v:V1}(h:fG c a b=some v):v.conc ρ=cond c (a.conc ρ) (b.conc ρ):=by
 obtain⟨ga,as⟩:=a
 obtain⟨gb,bs⟩:=b
 unfold fG at h
 split at h
 ·rename_i e1 e2
  simp only at e1 e2 h;subst e1 e2
  cases hm:aQ c as bs with
  |none=>simp [hm]at h
  |some u=>simp [hm]at h;subst h;simp only [V1.conc,(dc ρ hm).1];cases c <;> rfl
 ·rename_i e1 e2
  simp only at e1 e2 h;subst e1 e2
  cases hm:aQ c as bs with
  |none=>simp [hm]at h
  |some u=>
   simp [hm]at h;subst h
   obtain⟨h1,h2,h3⟩:=dc ρ hm
   match u,as,bs,h1,h2,h3 with
   | [],[],[],_,_,_=>cases c <;> rfl
   | [x],[y],[z],h1,_,_=>simp only [V1.conc];cases c <;> simpa using h1
   |_::_::_,_::_::_,_::_::_,_,_,_=>cases c <;> rfl
 ·cases h
theorem oU{U:Nat→Bool}{c:Bool}{a b v:V1}(ha:a.inU U)(h:fG c a b=some v):v.inU U:=by
 unfold fG at h
 split at h
 all_goals first
  |cases h
  |(cases hm:aQ c a.cs b.cs with
    |none=>simp [hm]at h
    |some u=>simp [hm]at h;subst h;exact gj ha hm)
def ci(c:Bool):List V1→List V1→Option (List V1)
 | [],[]=>some []
 |a::as,b::bs=>match fG c a b,ci c as bs with
  |some x,some xs=>some (x::xs)
  |_,_=>none
 |_,_=>none
theorem lk(ρ:Nm){c:Bool}: ∀ {as bs vs:List V1},ci c as bs=some vs→vs.map (V1.conc ρ)=cond c (as.map (V1.conc ρ)) (bs.map (V1.conc ρ))
 | [],[],vs,h=>by simp [ci]at h;subst h;cases c <;> rfl
 | [],_::_,vs,h=>by simp [ci]at h
 |_::_,[],vs,h=>by simp [ci]at h
 |a::as,b::bs,vs,h=>by
  simp only [ci]at h
  split at h
  ·rename_i x xs hx to
   cases h
   simp only [w9,mv ρ hx,lk ρ to];cases c <;> rfl
  ·cases h
theorem nv{U:Nat→Bool}{c:Bool}: ∀ {as bs vs:List V1},(∀ x∈as,x.inU U)→ci c as bs=some vs→ ∀ x∈vs,x.inU U
 | [],[],vs,_,h=>by simp [ci]at h;subst h;simp
 | [],_::_,vs,_,h=>by simp [ci]at h
 |_::_,[],vs,_,h=>by simp [ci]at h
 |a::as,b::bs,vs,ha,h=>by
  simp only [ci]at h
  split at h
  ·rename_i x xs hx to
   cases h
   intro y hy
   rcases List.mem_cons.1 hy with rfl | hy
   ·exact oU (ha _ (by simp)) hx
   ·exact nv (fun z hz=>ha z (by simp [hz])) to y hy
  ·cases h
def ew(c:Bool):SV→SV→Option SV
 | .one a,.one b=>(fG c a b).map .one
 | .tup as,.tup bs=>(ci c as bs).map .tup
 |_,_=>none
theorem fB(ρ:Nm){c:Bool}{a b v:SV}(h:ew c a b=some v):v.conc ρ=cond c (a.conc ρ) (b.conc ρ):=by
 unfold ew at h
 split at h
 ·rename_i x y
  cases hm:fG c x y with
  |none=>simp [hm]at h
  |some u=>simp [hm]at h;subst h;exact mv ρ hm
 ·rename_i x y
  cases hm:ci c x y with
  |none=>simp [hm]at h
  |some u=>simp [hm]at h;subst h;simp only [SV.conc,lk ρ hm];cases c <;> rfl
 ·cases h
theorem oT{U:Nat→Bool}{c:Bool}{a b v:SV}(ha:a.inU U)(h:ew c a b=some v):v.inU U:=by
 unfold ew at h
 split at h
 ·rename_i x y
  cases hm:fG c x y with
  |none=>simp [hm]at h
  |some u=>simp [hm]at h;subst h;exact oU ha hm
 ·rename_i x y
  cases hm:ci c x y with
  |none=>simp [hm]at h
  |some u=>simp [hm]at h;subst h;exact nv ha hm
 ·cases h
end Go.SX
namespace Go.SX
open Go.RowKit
theorem aD{used:Nat→Bool}{new:List Nat}: ∀ id,used id=true→ag used new id=true:=by
 intro id h;simp only [ag];cases memN new id <;> simp [h]
theorem Entry.inU_mono{U U':Nat→Bool}(h: ∀ id,U id=true→U' id=true){e:Entry}(he:e.inU U):e.inU U':=by
 cases e with
 |box T cs=>exact fun c hc=>Cell.inU_mono h (he c hc)
 |tree e t xs ho=>
  cases ho with
  |none=>trivial
  |some p=>exact fun c hc=>Cell.inU_mono h (he c hc)
 |_=>trivial
theorem iv{v:Value}{w:World}{e:TypeId}{z n:Nat}{cs:List Value}(h:dQ w e z v n cs){b:Nat}(hb:b∈az v):
  ∃ cap cur,v= .slice (some ⟨b,0,none⟩) n cap∧w.heap[b]? =some (.cells cur e (0,0))∧n≤cap∧cap≤maxLen∧cur.size=cap * z∧cur.toList.take (n * z)=cs:=by
 rcases h.2 with⟨hz,_⟩ | ⟨g,cap,cur,rfl,h0,hg,h1,h2,h3,h4⟩
 ·rw [nN hz]at hb;cases hb
 ·rw [bC h0,zK]at hb;subst hb
  exact⟨cap,cur,rfl,hg,h1,h2,h3,h4⟩
theorem bq.blk{w:World}: ∀ {t:CTy} {cs:List Value} {x:E t} {L:List Nat},bq w t cs x L→ ∀ b∈L,b < w.heap.size
 | .int _,_,_,_,h,b,hb=>by simp only [bq]at h;rw [h.2]at hb;cases hb
 | .bool,_,_,_,h,b,hb=>by simp only [bq]at h;rw [h.2]at hb;cases hb
 | .str,_,_,_,h,b,hb=>by simp only [bq]at h;rw [h.2]at hb;cases hb
 | .pair _ _,_,_,_,h,b,hb=>by
  simp only [bq]at h
  obtain⟨c1,c2,L1,L2,_,rfl,h1,h2,_⟩:=h
  rcases w8.1 hb with hb | hb
  ·exact h1.blk b hb
  ·exact h2.blk b hb
 | .sl _ _,_,_,_,h,b,hb=>by
  simp only [bq]at h
  obtain⟨v,ds,_,rfl,_,ho,_⟩:=h
  obtain⟨_,_,_,hg,_⟩:=iv ho hb
  exact(Array.getElem?_eq_some_iff.1 hg).1
 | .fn,_,_,_,h,b,hb=>by simp only [bq]at h;rw [h.2]at hb;cases hb
theorem hP.blk{w:World}{ρ:Nm}{t:CTy}{cs:List Value}{xs:List (E t)}{Ls:List (List Nat)}{ho:Option (Nat×List Cell)}(h:hP w ρ t cs xs Ls ho): ∀ b∈bp Ls,b < w.heap.size:=by
 intro b hb
 obtain⟨k,l,h1,h2⟩:=bh.1 hb
 have hk:k < xs.length:=by rw [← h.1];exact(zQ.1 h1).1
 by_cases hq: ∀ j hc,ho=some (j,hc)→k≠j
 ·exact(h.2.2.1 k _ l hq (List.getElem?_eq_getElem hk) h1).blk b h2
 ·simp only [ne_eq]at hq
  have: ∃ j hc,ho=some (j,hc)∧k=j:=by
   apply Classical.byContradiction
   intro hn
   exact hq fun j hc he hkj=>hn ⟨j,hc,he,hkj⟩
  obtain⟨j,hc,he,rfl⟩:=this
  obtain⟨_,h3,_⟩:=h.2.1 k hc he
  rw [h1]at h3;cases h3;cases h2
theorem Entry.ob_lt{B:Base}{ρ:Nm}{w:World}{id:Nat}{e:Entry}(h:e.holds B ρ w id){b:Nat}(hb:b∈e.ob ρ id):b < w.heap.size∧B.mem b=none∧ρ.mem b=none:=by
 cases e with
 |box T cs=>
  obtain⟨c,h1,h2,h3,h4⟩:=h
  simp only [Entry.ob,h1,az,zK]at hb
  subst hb
  exact⟨(Array.getElem?_eq_some_iff.1 h2).1,h3,h4⟩
 |row own e t xs=>
  cases own with
  |false=>simp [Entry.ob]at hb
  |true=>
   obtain⟨cs,h1,_,h3⟩:=h
   simp only [Entry.ob]at hb
   obtain⟨_,_,_,hg,_⟩:=iv h1 hb
   exact⟨(Array.getElem?_eq_some_iff.1 hg).1,h3 b hb⟩
 |tree e t xs ho=>
  obtain⟨cs,Ls,h1,h2,h3,_,h4⟩:=h
  simp only [Entry.ob]at hb
  refine⟨?_,h4 b hb⟩
  rcases w8.1 hb with hb | hb
  ·obtain⟨_,_,_,hg,_⟩:=iv h1 hb
   exact(Array.getElem?_eq_some_iff.1 hg).1
  ·rw [h3]at hb;exact h2.blk b hb
 |wk e t xs=>
  obtain⟨_,h1,h2⟩:=h
  obtain⟨o,g,_⟩:=vX h1 hb
  exact⟨(Array.getElem?_eq_some_iff.1 g).1,h2 b hb⟩
 |gone=>simp [Entry.ob]at hb
theorem bq.unf{w:World}: ∀ {t:CTy} {cs:List Value} {x:E t} {L:List Nat},bq w t cs x L→ ∀ b∈L,∃ o,w.heap[b]? =some o∧unf o
 | .int _,_,_,_,h,b,hb=>by simp only [bq]at h;rw [h.2]at hb;cases hb
 | .bool,_,_,_,h,b,hb=>by simp only [bq]at h;rw [h.2]at hb;cases hb
 | .str,_,_,_,h,b,hb=>by simp only [bq]at h;rw [h.2]at hb;cases hb
 | .pair _ _,_,_,_,h,b,hb=>by
  simp only [bq]at h
  obtain⟨c1,c2,L1,L2,_,rfl,h1,h2,_⟩:=h
  rcases w8.1 hb with hb | hb
  ·exact h1.unf b hb
  ·exact h2.unf b hb
 | .sl _ _,_,_,_,h,b,hb=>by
  simp only [bq]at h
  obtain⟨v,ds,_,rfl,_,ho,_⟩:=h
  obtain⟨_,_,_,hg,_⟩:=iv ho hb
  exact⟨_,hg,_,_,rfl⟩
 | .fn,_,_,_,h,b,hb=>by simp only [bq]at h;rw [h.2]at hb;cases hb
theorem hP.unf{w:World}{ρ:Nm}{t:CTy}{cs:List Value}{xs:List (E t)}{Ls:List (List Nat)}{ho:Option (Nat×List Cell)}(h:hP w ρ t cs xs Ls ho): ∀ b∈bp Ls,∃ o,w.heap[b]? =some o∧unf o:=by
 intro b hb
 obtain⟨k,l,h1,h2⟩:=bh.1 hb
 have hk:k < xs.length:=by rw [← h.1];exact(zQ.1 h1).1
 by_cases hq: ∀ j hc,ho=some (j,hc)→k≠j
 ·exact(h.2.2.1 k _ l hq (List.getElem?_eq_getElem hk) h1).unf b h2
 ·simp only [ne_eq]at hq
  have: ∃ j hc,ho=some (j,hc)∧k=j:=by
   apply Classical.byContradiction
   intro hn
   exact hq fun j hc he hkj=>hn ⟨j,hc,he,hkj⟩
  obtain⟨j,hc,he,rfl⟩:=this
  obtain⟨_,h3,_⟩:=h.2.1 k hc he
  rw [h1]at h3;cases h3;cases h2
theorem Entry.ob_unf{B:Base}{ρ:Nm}{w:World}{id:Nat}{e:Entry}(h:e.holds B ρ w id){b:Nat}(hb:b∈e.ob ρ id){o:Obj}(ho:w.heap[b]? =some o):unf o:=by
 have eI: ∃ o',w.heap[b]? =some o'∧SX.unf o':=by
  cases e with
  |box T cs=>
   obtain⟨c,h1,h2,h3,h4⟩:=h
   simp only [Entry.ob,h1,az,zK]at hb
   subst hb
   exact⟨_,h2,_,_,rfl⟩
  |row own e t xs=>
   cases own with
   |false=>simp [Entry.ob]at hb
   |true=>
    obtain⟨cs,h1,_,h3⟩:=h
    simp only [Entry.ob]at hb
    obtain⟨_,_,_,hg,_⟩:=iv h1 hb
    exact⟨_,hg,_,_,rfl⟩
  |tree e t xs ho=>
   obtain⟨cs,Ls,h1,h2,h3,_,h4⟩:=h
   simp only [Entry.ob]at hb
   rcases w8.1 hb with hb | hb
   ·obtain⟨_,_,_,hg,_⟩:=iv h1 hb
    exact⟨_,hg,_,_,rfl⟩
   ·rw [h3]at hb;exact h2.unf b hb
  |wk e t xs=>
   obtain⟨_,h1,h2⟩:=h
   exact vX h1 hb
  |gone=>simp [Entry.ob]at hb
 obtain⟨o',h1,h2⟩:=eI
 rw [ho]at h1;cases h1;exact h2
theorem gk{v:Value}{w w':World}{e:TypeId}{z n:Nat}{cs:List Value}(h:dQ w e z v n cs)(hk: ∀ b∈az v,w'.heap[b]? =w.heap[b]?):dQ w' e z v n cs:=by
 refine⟨h.1,h.2.imp id ?_⟩
 rintro⟨g,cap,cur,rfl,h1,h2,rest⟩
 exact⟨g,cap,cur,rfl,h1,by rw [hk g (by rw [bC h1];simp)];exact h2,rest⟩
theorem bq.keep{w w':World}: ∀ {t:CTy} {cs:List Value} {x:E t} {L:List Nat},bq w t cs x L→(∀ b∈L,w'.heap[b]? =w.heap[b]?)→bq w' t cs x L
 | .int _,_,_,_,h,_=>by simp only [bq]at h ⊢;exact h
 | .bool,_,_,_,h,_=>by simp only [bq]at h ⊢;exact h
 | .str,_,_,_,h,_=>by simp only [bq]at h ⊢;exact h
 | .pair _ _,_,_,_,h,hk=>by
  simp only [bq]at h ⊢
  obtain⟨c1,c2,L1,L2,e,rfl,h1,h2,h3⟩:=h
  exact⟨c1,c2,L1,L2,e,rfl,h1.keep fun b hb=>hk b (List.mem_append_left _ hb),h2.keep fun b hb=>hk b (w6 _ hb),h3⟩
 | .sl _ _,_,_,_,h,hk=>by
  simp only [bq]at h ⊢
  obtain⟨v,ds,e,rfl,hf,ho,hr⟩:=h
  exact⟨v,ds,e,rfl,hf,gk ho hk,hr⟩
 | .fn,_,_,_,h,_=>by simp only [bq]at h ⊢;exact h
theorem hP.keep{w w':World}{ρ ρ':Nm}{t:CTy}{cs:List Value}{xs:List (E t)}{Ls:List (List Nat)}{ho:Option (Nat×List Cell)}(h:hP w ρ t cs xs Ls ho)(hk: ∀ b∈bp Ls,w'.heap[b]? =w.heap[b]?)
  (hc: ∀ k hc,ho=some (k,hc)→hc.map (Cell.conc ρ')=hc.map (Cell.conc ρ)):hP w' ρ' t cs xs Ls ho:=by
 obtain⟨h1,h2,h3,h4⟩:=h
 refine⟨h1,fun k l he=> ?_,fun i x l hi hx hl=>(h3 i x l hi hx hl).keep fun b hb=>hk b (bh.2 ⟨i,l,hl,hb⟩),h4⟩
 obtain⟨a,b,c⟩:=h2 k l he
 exact⟨a,b,by rw [hc k l he];exact c⟩
theorem Entry.holds_keep{B:Base}{ρ ρ':Nm}{U:Nat→Bool}{w w':World}{id:Nat}{e:Entry}(hfp:ρ'.fp id=ρ.fp id)(fc: ∀ id,U id=true→ρ' id=ρ id)(hold: ∀ b o,ρ.mem b=some o→ρ'.mem b=some o)
  (hU:U id=true) (ei:e.inU U) (hh:e.holds B ρ w id) (hw: ∀ b∈e.ob ρ id,w'.heap[b]? =w.heap[b]?) (hm: ∀ b∈e.ob ρ id,ρ'.mem b=none):e.holds B ρ' w' id:=by
 cases e with
 |box T cs=>
  obtain⟨b,h1,h2,h3,h4⟩:=hh
  simp only [Entry.ob,h1,az,zK,forall_eq]at hw hm
  exact⟨b,by rw [fc id hU,h1],by rw [ch fc ei,hw,h2],h3,hm⟩
 |row own e t xs=>
  cases own with
  |false=>
   simp only [Entry.holds]at hh ⊢
   rw [fc id hU];exact hh.mono hold
  |true=>
   obtain⟨cs,h1,h2,h3⟩:=hh
   simp only [Entry.ob]at hw hm
   simp only [Entry.holds]
   rw [fc id hU]
   exact⟨cs,gk h1 hw,h2.mono hold,fun b hb=>⟨(h3 b hb).1,hm b hb⟩⟩
 |tree e t xs ho=>
  obtain⟨cs,Ls,h1,h2,h3,h4,h5⟩:=hh
  simp only [Entry.ob]at hw hm
  simp only [Entry.holds]
  rw [fc id hU,hfp]
  refine⟨cs,Ls,gk h1 fun b hb=>hw b (List.mem_append_left _ hb),h2.keep (fun b hb=>hw b (w6 _ (by rw [h3];exact hb))) fun k l he=> ?_,h3,h4,fun b hb=>⟨(h5 b hb).1,hm b hb⟩⟩
  subst he
  exact ch fc ei
 |wk e t xs=>
  obtain⟨h1,h2,h3⟩:=hh
  simp only [Entry.ob]at hw hm
  simp only [Entry.holds]
  rw [fc id hU]
  exact⟨h1,wF h1 h2 hw,fun b hb=>⟨(h3 b hb).1,hm b hb⟩⟩
 |gone=>trivial
structure Chg (w w':World) (X:Nat→Prop):Prop where
 os:w'.os=w.os
 tape:w'.tape=w.tape
 output:w'.output=w.output
 size:w.heap.size≤w'.heap.size
 block: ∀ k,k < w.heap.size→ ¬ X k→w'.heap[k]? =w.heap[k]?
theorem Chg.refl(w:World)(X:Nat→Prop):Chg w w X:=⟨rfl,rfl,rfl,Nat.le_refl _,fun _ _ _=>rfl⟩
theorem Chg.grown{w w':World}{r:Option Nat}(h:w.grownBy w' r):Chg w w' (fun k=>r=some k):=
 ⟨h.os,h.tape,h.output,h.size,fun k hk hX=>h.block k hk fun e=>hX e.symm⟩
theorem Chg.alloc(w:World)(o:Obj):Chg w (w.alloc o) (fun _=>False):=
 ⟨rfl,rfl,rfl,by simp,fun k hk _=>heap_alloc_old w o hk⟩
theorem Chg.setRow(w:World)(b:Nat)(r:Array Value):Chg w (w.setRow b r) (fun k=>k=b):=
 ⟨rfl,rfl,rfl,by simp [World.setRow],fun k _ hX=>setRow_other w b k _ hX⟩
def Was(ent:Nat→Option Entry)(ρ:Nm)(es:List (Nat×Entry))(b:Nat):Prop:= ∃ id e e',ent id=some e∧b∈e.ob ρ id∧look? es id=some e'
theorem Hp.chg{B:Base}{ρ ρ':Nm}{ent:Nat→Option Entry}{used:Nat→Bool}{w w':World}{X:Nat→Prop}{es:List (Nat×Entry)}{new:List Nat}(h:Hp B ρ ent used w)
  (hc:Chg w w' X) (fc: ∀ id,used id=true→ρ' id=ρ id) (hold: ∀ b o,ρ.mem b=some o→ρ'.mem b=some o)
  (hX: ∀ k,X k→Was ent ρ es k)
  (hfr: ∀ b o,ρ'.mem b=some o→ρ.mem b=some o∨(w'.heap[b]? =some o∧unf o∧(w.heap.size≤b∨Was ent ρ es b)))
  (pd: ∀ id e,look? es id=some e→e.holds B ρ' w' id∧ag used new id=true∧e.inU (ag used new))
  (pu: ∀ id e b,look? es id=some e→b∈e.ob ρ' id→w.heap.size≤b∨Was ent ρ es b)
  (hdis: ∀ id id' e e' b,look? es id=some e→look? es id'=some e'→b∈e.ob ρ' id→b∈e'.ob ρ' id'→id=id')
  (hfp: ∀ id,used id=true→look? es id=none→ρ'.fp id=ρ.fp id:=by intros;rfl):
  Ext B used ρ ρ'∧Hp B ρ' (ae ent es) (ag used new) w':=by
 have fl: ∀ b,Was ent ρ es b→b < w.heap.size∧B.mem b=none∧ρ.mem b=none:=fun b ⟨id,e,_,h1,h2,_⟩=>Entry.ob_lt (h.he id e h1).1 h2
 have hnw: ∀ b o,B.mem b=some o→ ¬ w.heap.size≤b:=fun b o hb eP=>by
  have:=(Array.getElem?_eq_some_iff.1 (h.hf.mem b o hb)).1;omega
 have oth: ∀ id e b,ent id=some e→look? es id=none→b∈e.ob ρ id→ ¬ Was ent ρ es b:=by
  intro id e b he hl hb ⟨id0,e0,e',h1,h2,h3⟩
  have:=h.hi _ _ _ _ b he h1 hb h2
  subst this;rw [hl]at h3;cases h3
 have eI: ∀ id e,ent id=some e→look? es id=none→e.holds B ρ' w' id∧ag used new id=true∧e.inU (ag used new):=by
  intro id e he hl
  obtain⟨h1,h2,h3⟩:=h.he id e he
  refine⟨Entry.holds_keep (hfp id h2 hl) fc hold h2 h3 h1 (fun b hb=>hc.block b (Entry.ob_lt h1 hb).1 fun hx=>oth id e b he hl hb (hX b hx)) (fun b hb=> ?_),aD _ h2,Entry.inU_mono aD h3⟩
  cases hm:ρ'.mem b with
  |none=>rfl
  |some o=>
   obtain⟨h4,_,h5⟩:=Entry.ob_lt h1 hb
   rcases hfr b o hm with h6 | ⟨_,_,h6 | h6⟩
   ·rw [h5]at h6;cases h6
   ·omega
   ·exact(oth id e b he hl hb h6).elim
 have aS: ∀ b o,ρ'.mem b=some o→ρ.mem b=some o∨(B.mem b=none∧unf o):=by
  intro b o hb
  rcases hfr b o hb with h6 | ⟨_,hu,h6⟩
  ·exact .inl h6
  ·refine .inr ⟨?_,hu⟩
   cases hm:B.mem b with
   |none=>rfl
   |some o'=>
    rcases h6 with h6 | h6
    ·exact(hnw b o' hm h6).elim
    ·rw [(fl b h6).2.1]at hm;cases hm
 refine⟨⟨fc,hold,aS⟩,fun id e he=> ?_,fun id id' e e' b he he' hb hb'=> ?_,hc.os.trans h.hf.os,hc.tape.trans h.hf.tape,hc.output.trans h.hf.output,Nat.le_trans h.hf.size hc.size,fun b o hb=> ?_,fun b o hb=> ?_,h.hf.gl.mono hold⟩
 ·simp only [ae]at he
  cases hl:look? es id with
  |some e1=>simp [hl]at he;subst he;exact pd id _ hl
  |none=>simp [hl]at he;exact eI id e he hl
 ·have hsame: ∀ id e b,ent id=some e→look? es id=none→b∈e.ob ρ' id→b∈e.ob ρ id:=fun id e b he hl hb=>by
   have h1:=fc id (h.he id e he).2.1
   have h2:=hfp id (h.he id e he).2.1 hl
   cases e with
   |row own _ _ _=>cases own <;> simp only [Entry.ob,h1]at hb ⊢ <;> exact hb
   |_=>simp only [Entry.ob,h1,h2]at hb ⊢;exact hb
  simp only [ae]at he he'
  cases hl:look? es id with
  |some e1=>
   simp [hl]at he;subst he
   cases hl':look? es id' with
   |some e2=>simp [hl']at he';subst he';exact hdis _ _ _ _ b hl hl' hb hb'
   |none=>
    simp [hl']at he'
    have hb2:=hsame _ _ _ he' hl' hb'
    rcases pu id _ b hl hb with h6 | h6
    ·have:=(Entry.ob_lt (h.he id' e' he').1 hb2).1;omega
    ·exact(oth id' e' b he' hl' hb2 h6).elim
  |none=>
   simp [hl]at he
   have hb1:=hsame _ _ _ he hl hb
   cases hl':look? es id' with
   |some e2=>
    simp [hl']at he';subst he'
    rcases pu id' _ b hl' hb' with h6 | h6
    ·have:=(Entry.ob_lt (h.he id e he).1 hb1).1;omega
    ·exact(oth id e b he hl hb1 h6).elim
   |none=>
    simp [hl']at he'
    exact h.hi _ _ _ _ b he he' hb1 (hsame _ _ _ he' hl' hb')
 ·have h1:=h.hf.mem b o hb
  rw [hc.block b (Array.getElem?_eq_some_iff.1 h1).1 fun hx=>by rw [(fl b (hX b hx)).2.1]at hb;cases hb];exact h1
 ·rcases hfr b o hb with h6 | ⟨h6,_⟩
  ·have h1:=h.hf.dat b o h6
   rw [hc.block b (Array.getElem?_eq_some_iff.1 h1).1 fun hx=>by rw [(fl b (hX b hx)).2.2]at h6;cases h6];exact h1
  ·exact h6
theorem look?_append{α:Type}: ∀ (l r:List (Nat×α)) (k:Nat),look? (l++r) k=match look? l k with | some x=>some x | none=>look? r k
 | [],r,k=>rfl
 |p::l,r,k=>by
  simp only [List.cons_append,look?]
  cases Nat.beq p.1 k with
  |true=>rfl
  |false=>exact look?_append l r k
theorem oS: ∀ (l r:List Nat) (k:Nat),memN (l++r) k=(memN l k||memN r k)
 | [],r,k=>by simp [memN]
 |p::l,r,k=>by
  simp only [List.cons_append,memN]
  cases Nat.beq p k with
  |true=>simp
  |false=>simpa using oS l r k
theorem cZ(ent:Nat→Option Entry)(l r:List (Nat×Entry)):ae (ae ent r) l=ae ent (l++r):=by
 funext i
 simp only [ae,look?_append]
 cases look? l i <;> rfl
theorem qT(used:Nat→Bool)(l r:List Nat):ag (ag used r) l=ag used (l++r):=by
 funext i
 simp only [ag,oS]
 cases memN l i <;> cases memN r i <;> rfl
theorem kn(used:Nat→Bool):ag used []=used:=rfl
def upd(ρ:Nm)(nid:Nat)(v:Value):Nm:=⟨fun i=>bif Nat.beq i nid then v else ρ.nm i,ρ.mem,ρ.fp⟩
theorem ax(ρ:Nm)(nid:Nat){v:Value}(hv:eM v=v):upd ρ nid v nid=v:=by simp [Nm.of,upd,hv]
theorem gR{a:Addr}{n c b:Nat}(h:b∈az (.slice (some a) n c)):b=a.block:=by
 simp only [az]at h
 cases hq:Nat.beq c 0 with
 |true=>rw [hq]at h;cases h
 |false=>rw [hq]at h;simpa using h
theorem ej{v:Value}(h:mB v): ∃ b,v= .slice b 0 0:=by
 rcases h with rfl | ⟨b,rfl⟩
 ·exact⟨_,rfl⟩
 ·exact⟨_,rfl⟩
theorem mX{v:Value}(h:mB v):eM v=v:=by
 rcases h with rfl | ⟨_,rfl⟩ <;> rfl
theorem bN{w:World}{e:TypeId}{z n:Nat}{v:Value}{cs:List Value}(h:dQ w e z v n cs):eM v=v:=by
 rcases h.2 with⟨h,_⟩ | ⟨_,_,_,rfl,_⟩
 ·exact mX h
 ·rfl
theorem Chg.own{w w':World}{v:Value}(h:w.grownBy w' v.ownBlock)(hv: ∀ g,v.ownBlock=some g→g∈az v):Chg w w' (fun k=>k∈az v):=
 ⟨h.os,h.tape,h.output,h.size,fun k hk hX=>h.block k hk fun e=>hX (hv k e.symm)⟩
theorem fM{used:Nat→Bool}{nid:Nat}(hn:used nid=false)(ρ:Nm)(v:Value): ∀ id,used id=true→upd ρ nid v id=ρ id:=by
 intro id aR
 have:Nat.beq id nid=false:=by
  cases hb:Nat.beq id nid with
  |false=>rfl
  |true=>rw [q8 hb,hn]at aR;cases aR
 simp only [Nm.of,upd,this,cond_false]
theorem look?_one{α:Type}{i k:Nat}{x y:α}(h:look? [(i,x)] k=some y):k=i∧y=x:=by
 simp only [look?]at h
 cases hb:Nat.beq i k with
 |true=>simp [hb]at h;exact⟨(q8 hb).symm,h.symm⟩
 |false=>simp [hb]at h
theorem look?_same{α:Type}(i:Nat)(x:α)(l:List (Nat×α)):look? ((i,x)::l) i=some x:=by simp [look?]
section
variable{B:Base}{ρ:Nm}{ent:Nat→Option Entry}{used:Nat→Bool}{w:World}
theorem Hp.alloc(h:Hp B ρ ent used w){nid:Nat}(hn:used nid=false)(T:TypeId)(cs:List Cell)(fX: ∀ c∈cs,c.inU used):
  let ρ':=upd ρ nid (.pointer (some ⟨w.heap.size,0,none⟩))
  Ext B used ρ ρ'∧Hp B ρ' (ae ent [(nid,.box T cs)]) (ag used [nid]) (w.alloc (.cells (cs.map (Cell.conc ρ)).toArray T)):=by
 intro ρ'
 have fc:=fM hn ρ (.pointer (some ⟨w.heap.size,0,none⟩))
 refine h.chg (Chg.alloc w _) fc (fun _ _ h=>h) (fun _ hx=>hx.elim) (fun _ _ hb=> .inl hb) (fun id e he=> ?_) (fun id e b he hb=> ?_) (fun id id' e e' b he he' _ _=> ?_)
 ·obtain⟨rfl,rfl⟩:=look?_one he
  refine⟨⟨w.heap.size,ax _ _ rfl,?_,?_,?_⟩,by simp [ag,memN],fun c hc=>Cell.inU_mono aD (fX c hc)⟩
  ·rw [ch fc fX];exact heap_alloc_new w _
  ·cases hm:B.mem w.heap.size with
   |none=>rfl
   |some o=>have:=(Array.getElem?_eq_some_iff.1 (h.hf.mem _ _ hm)).1;omega
  ·show ρ.mem w.heap.size=none
   cases hm:ρ.mem w.heap.size with
   |none=>rfl
   |some o=>have:=(Array.getElem?_eq_some_iff.1 (h.hf.dat _ _ hm)).1;omega
 ·obtain⟨rfl,rfl⟩:=look?_one he
  simp only [Entry.ob]at hb
  rw [show ρ' id= .pointer (some ⟨w.heap.size,0,none⟩) from ax _ _ rfl]at hb
  simp only [az,zK]at hb
  subst hb;exact .inl (Nat.le_refl _)
 ·exact(look?_one he).1.trans (look?_one he').1.symm
theorem Hp.setBox(h:Hp B ρ ent used w){id:Nat}{T:TypeId}{cs ns:List Cell}(he:ent id=some (.box T cs))(re: ∀ c∈ns,c.inU used):
  Ext B used ρ ρ∧Hp B ρ (ae ent [(id,.box T ns)]) used (w.setRow (gu (ρ id)) (ns.map (Cell.conc ρ)).toArray):=by
 obtain⟨⟨b,h1,h2,h3,h4⟩,aR,_⟩:=h.he _ _ he
 have hbk:gu (ρ id)=b:=by rw [h1];rfl
 have fl:Was ent ρ [(id,.box T ns)] b:=⟨id,_,_,he,by simp [Entry.ob,h1,az],look?_same _ _ _⟩
 rw [hbk,show used=ag used [] from rfl]
 refine h.chg (Chg.setRow w b _) (fun _ _=>rfl) (fun _ _ h=>h) (fun k hk=>by subst hk;exact fl) (fun _ _ hb=> .inl hb) (fun i e hl=> ?_) (fun i e b' hl hb'=> ?_) (fun i i' e e' b' hl hl' _ _=> ?_)
 ·obtain⟨rfl,rfl⟩:=look?_one hl
  exact⟨⟨b,h1,setRow_heap w _ _ _ T _ h2,h3,h4⟩,aR,re⟩
 ·obtain⟨rfl,rfl⟩:=look?_one hl
  simp only [Entry.ob,h1,az,zK]at hb'
  subst hb';exact .inr fl
 ·exact(look?_one hl).1.trans (look?_one hl').1.symm
theorem Hp.names(h:Hp B ρ ent used w){ρ':Nm}{es:List (Nat×Entry)}{new:List Nat}(fc: ∀ id,used id=true→ρ' id=ρ id)(eQ:ρ'.mem=ρ.mem)
  (pd: ∀ id e,look? es id=some e→e.holds B ρ' w id∧ag used new id=true∧e.inU (ag used new)∧e.ob ρ' id= [])
  (hfp: ∀ id,used id=true→look? es id=none→ρ'.fp id=ρ.fp id:=by intros;rfl):
  Ext B used ρ ρ'∧Hp B ρ' (ae ent es) (ag used new) w:=by
 refine h.chg (Chg.refl w (fun _=>False)) fc (fun _ _ h=>by rw [eQ];exact h) (fun _ hx=>hx.elim) (fun _ _ hb=> .inl (by rw [← eQ];exact hb)) (fun id e he=> ?_) (fun id e b he hb=> ?_) (fun id id' e e' b he he' hb _=> ?_) hfp
 ·obtain⟨h1,h2,h3,_⟩:=pd id e he;exact⟨h1,h2,h3⟩
 ·rw [(pd id e he).2.2.2]at hb;cases hb
 ·rw [(pd id e he).2.2.2]at hb;cases hb
theorem Hp.rowTo(h:Hp B ρ ent used w){id nid:Nat}{e:TypeId}{t:CTy}{xs xs':List (E t)}{w':World}{v':Value}{cs:List Value}(he:ent id=some (.row true e t xs))(hn:used nid=false)
  (hg:Chg w w' (fun k=>k∈az (ρ id))) (bv:dQ w' e t.size v' xs'.length cs) (bw:aU ρ.mem t cs xs') (hb: ∀ b∈az v',w.heap.size≤b∨b∈az (ρ id)):
  let ρ':=upd ρ nid v'
  Ext B used ρ ρ'∧Hp B ρ' (ae ent [(nid,.row true e t xs'),(id,.gone)]) (ag used [nid]) w':=by
 intro ρ'
 obtain⟨⟨cs0,h1,h2,h3⟩,aR,_⟩:=h.he _ _ he
 have fc:=fM hn ρ v'
 have ij:Nat.beq nid id=false:=by
  cases hq:Nat.beq nid id with
  |false=>rfl
  |true=>rw [q8 hq,aR]at hn;cases hn
 have hlid:look? [(nid,Entry.row true e t xs'),(id,.gone)] id=some .gone:=by simp [look?,ij]
 have fl: ∀ b∈az (ρ id),Was ent ρ [(nid,.row true e t xs'),(id,.gone)] b:=fun b hb=>⟨id,_,_,he,hb,hlid⟩
 have hcase: ∀ i x,look? [(nid,Entry.row true e t xs'),(id,.gone)] i=some x→(i=nid∧x= .row true e t xs')∨(i=id∧x= .gone):=by
  intro i x hl
  simp only [look?]at hl
  cases hq:Nat.beq nid i with
  |true=>simp [hq]at hl;exact .inl ⟨(q8 hq).symm,hl.symm⟩
  |false=>
   simp [hq]at hl
   cases hq':Nat.beq id i with
   |true=>simp [hq']at hl;exact .inr ⟨(q8 hq').symm,hl.symm⟩
   |false=>simp [hq']at hl
 refine h.chg hg fc (fun _ _ h=>h) (fun k hk=>fl k hk) (fun _ _ hb=> .inl hb) (fun i x hl=> ?_) (fun i x b hl hb'=> ?_) (fun i i' x x' b hl hl' hb1 hb2=> ?_)
 ·rcases hcase i x hl with⟨rfl,rfl⟩ | ⟨rfl,rfl⟩
  ·refine⟨?_,by simp [ag,memN],trivial⟩
   simp only [Entry.holds]
   rw [show ρ' i=v' from ax _ _ (bN bv)]
   refine⟨cs,bv,bw,fun b hb'=> ?_⟩
   rcases hb b hb' with h6 | h6
   ·constructor
    ·cases hm:B.mem b with
     |none=>rfl
     |some o=>have:=(Array.getElem?_eq_some_iff.1 (h.hf.mem _ _ hm)).1;omega
    ·show ρ.mem b=none
     cases hm:ρ.mem b with
     |none=>rfl
     |some o=>have:=(Array.getElem?_eq_some_iff.1 (h.hf.dat _ _ hm)).1;omega
   ·exact h3 b h6
  ·exact⟨trivial,aD _ aR,trivial⟩
 ·rcases hcase i x hl with⟨rfl,rfl⟩ | ⟨rfl,rfl⟩
  ·simp only [Entry.ob]at hb'
   rw [show ρ' i=v' from ax _ _ (bN bv)]at hb'
   exact(hb b hb').imp (fun h=>h) (fl b)
  ·simp [Entry.ob]at hb'
 ·rcases hcase i x hl with⟨rfl,rfl⟩ | ⟨rfl,rfl⟩
  ·rcases hcase i' x' hl' with⟨rfl,rfl⟩ | ⟨rfl,rfl⟩
   ·rfl
   ·simp [Entry.ob]at hb2
  ·simp [Entry.ob]at hb1
theorem Hp.rowNew(h:Hp B ρ ent used w){nid:Nat}{e:TypeId}{t:CTy}{xs:List (E t)}{w':World}{v:Value}{cs:List Value}(hn:used nid=false)
  (hg:w.grownBy w' none) (bv:dQ w' e t.size v xs.length cs) (bw:aU ρ.mem t cs xs) (hb: ∀ b∈az v,w.heap.size≤b):
  let ρ':=upd ρ nid v
  Ext B used ρ ρ'∧Hp B ρ' (ae ent [(nid,.row true e t xs)]) (ag used [nid]) w':=by
 intro ρ'
 have fc:=fM hn ρ v
 refine h.chg (Chg.grown hg) fc (fun _ _ h=>h) (fun k hk=>by cases hk) (fun _ _ hb=> .inl hb) (fun i x hl=> ?_) (fun i x b hl hb'=> ?_) (fun i i' x x' b hl hl' hb1 hb2=> ?_)
 ·obtain⟨rfl,rfl⟩:=look?_one hl
  refine⟨?_,by simp [ag,memN],trivial⟩
  simp only [Entry.holds]
  rw [show ρ' i=v from ax _ _ (bN bv)]
  refine⟨cs,bv,bw,fun b hb'=> ?_⟩
  have h6:=hb b hb'
  constructor
  ·cases hm:B.mem b with
   |none=>rfl
   |some o=>have:=(Array.getElem?_eq_some_iff.1 (h.hf.mem _ _ hm)).1;omega
  ·show ρ.mem b=none
   cases hm:ρ.mem b with
   |none=>rfl
   |some o=>have:=(Array.getElem?_eq_some_iff.1 (h.hf.dat _ _ hm)).1;omega
 ·obtain⟨rfl,rfl⟩:=look?_one hl
  simp only [Entry.ob]at hb'
  rw [show ρ' i=v from ax _ _ (bN bv)]at hb'
  exact .inl (hb b hb')
 ·exact(look?_one hl).1.trans (look?_one hl').1.symm
theorem Hp.rowSet(h:Hp B ρ ent used w){id:Nat}{e:TypeId}{t:CTy}{xs xs':List (E t)}{w':World}{cs:List Value}(he:ent id=some (.row true e t xs))
  (hg:Chg w w' (fun k=>k∈az (ρ id))) (bv:dQ w' e t.size (ρ id) xs'.length cs) (bw:aU ρ.mem t cs xs'):
  Ext B used ρ ρ∧Hp B ρ (ae ent [(id,.row true e t xs')]) used w':=by
 obtain⟨⟨cs0,h1,h2,h3⟩,aR,_⟩:=h.he _ _ he
 have fl: ∀ b∈az (ρ id),Was ent ρ [(id,.row true e t xs')] b:=fun b hb=>⟨id,_,_,he,hb,look?_same _ _ _⟩
 rw [show used=ag used [] from rfl]
 refine h.chg hg (fun _ _=>rfl) (fun _ _ h=>h) (fun k hk=>fl k hk) (fun _ _ hb=> .inl hb) (fun i x hl=> ?_) (fun i x b hl hb'=> ?_) (fun i i' x x' b hl hl' hb1 hb2=> ?_)
 ·obtain⟨rfl,rfl⟩:=look?_one hl
  exact⟨⟨cs,bv,bw,h3⟩,aR,trivial⟩
 ·obtain⟨rfl,rfl⟩:=look?_one hl
  exact .inr (fl b hb')
 ·exact(look?_one hl).1.trans (look?_one hl').1.symm
theorem Hp.freeze'(h:Hp B ρ ent used w){id:Nat}{e:TypeId}{t:CTy}{xs:List (E t)}(he:ent id=some (.row true e t xs)):
  ∃ ρ':Nm,ρ'.nm=ρ.nm∧ρ'.fp=ρ.fp∧(∀ b∈az (ρ id),∃ o,ρ'.mem b=some o)∧Ext B used ρ ρ'∧Hp B ρ' (ae ent [(id,.row false e t xs)]) used w:=by
 obtain⟨⟨cs,h1,h2,h3⟩,aR,_⟩:=h.he _ _ he
 have fl: ∀ b∈az (ρ id),Was ent ρ [(id,.row false e t xs)] b:=fun b hb=>⟨id,_,_,he,hb,look?_same _ _ _⟩
 refine⟨⟨ρ.nm,fun b=>if b∈az (ρ id)then w.heap[b]? else ρ.mem b,ρ.fp⟩,rfl,rfl,fun b hb=> ?_,?_⟩
 ·show ∃ o,(if b∈az (ρ id)then w.heap[b]? else ρ.mem b)=some o
  rw [if_pos hb]
  obtain⟨_,_,_,hg,_⟩:=iv h1 hb
  exact⟨_,hg⟩
 have hold: ∀ b o,ρ.mem b=some o→(if b∈az (ρ id)then w.heap[b]? else ρ.mem b)=some o:=by
  intro b o hb
  split
  ·exact h.hf.dat b o hb
  ·exact hb
 rw [show used=ag used [] from rfl]
 refine h.chg (Chg.refl w (fun _=>False)) (fun _ _=>rfl) hold (fun _ hx=>hx.elim) (fun b o hb=> ?_) (fun i x hl=> ?_) (fun i x b hl hb'=> ?_) (fun i i' x x' b hl hl' hb1 hb2=> ?_)
 ·simp only at hb
  split at hb
  ·rename_i hm;exact .inr ⟨hb,Entry.ob_unf (h.he _ _ he).1 hm hb,.inr (fl b hm)⟩
  ·exact .inl hb
 ·obtain⟨rfl,rfl⟩:=look?_one hl
  refine⟨?_,aR,trivial⟩
  show eO _ t (ρ i) xs
  rcases h1.2 with⟨hv,hn0⟩ | ⟨g,cap,cur,hv,h0,hg,eP,le,eb,lg⟩
  ·exact .inl ⟨hv,List.length_eq_zero_iff.1 hn0⟩
  ·refine .inr ⟨g,0,cap,cur,e,(0,0),hv,eP,le,?_,fun j x hx=> ?_⟩
   ·show (if g∈az (ρ i)then w.heap[g]? else ρ.mem g)=_
    rw [if_pos (by rw [hv,bC h0];simp)];exact hg
   ·have:=Rep.mono hold _ _ _ (h2.2 j x hx)
    rw [← lg]at this
    have hj:j < xs.length:=(zQ.1 hx).1
    have bI:j * t.size + t.size≤xs.length * t.size:=by
     have:(j + 1) * t.size≤xs.length * t.size:=Nat.mul_le_mul_right _ hj
     rwa [Nat.add_mul,Nat.one_mul]at this
    rw [List.drop_take,List.take_take]at this
    rw [Nat.zero_add]
    rwa [Nat.min_eq_left (by omega)]at this
 ·obtain⟨rfl,rfl⟩:=look?_one hl
  simp [Entry.ob]at hb'
 ·exact(look?_one hl).1.trans (look?_one hl').1.symm
theorem Hp.freeze(h:Hp B ρ ent used w){id:Nat}{e:TypeId}{t:CTy}{xs:List (E t)}(he:ent id=some (.row true e t xs)):
  ∃ ρ':Nm,ρ'.nm=ρ.nm∧Ext B used ρ ρ'∧Hp B ρ' (ae ent [(id,.row false e t xs)]) used w:=
 let ⟨ρ',h1,_,_,h2,h3⟩:=h.freeze' he
 ⟨ρ',h1,h2,h3⟩
end
end Go.SX
namespace Go.SX
open Go.RowKit
def CTy.nsl:CTy→Nat
 | .sl _ _=>1
 | .fn=>1
 | .pair a b=>a.nsl + b.nsl
 |_=>0
def bM:(t:CTy)→E t→Nat→List Cell
 | .int k,x,_=> [.val (.int k x)]
 | .bool,b,_=> [.val (.bool b)]
 | .str,s,_=> [.val (.string s)]
 | .pair a b,p,n=>bM a p.1 n++bM b p.2 (n + a.nsl)
 | .sl _ _,_,n=> [.ref n]
 | .fn,_,n=> [.ref n]
def eK:(t:CTy)→E t→Nat→List (Nat×Entry)
 | .pair a b,p,n=>eK a p.1 n++eK b p.2 (n + a.nsl)
 | .sl e t,xs,n=> [(n,.row false e t xs)]
 | .fn,_,n=> [(n,.gone)]
 |_,_,_=> []
def ac:Nat→Nat→List Nat
 |_,0=> []
 |n,k + 1=>n::ac (n + 1) k
theorem bk: ∀ {k n i:Nat},memN (ac n k) i=true↔n≤i∧i < n + k
 |0,n,i=>by simp [ac,memN]
 |k + 1,n,i=>by
  simp only [ac,memN]
  cases hb:Nat.beq n i with
  |true=>have:=q8 hb;subst this;simp
  |false=>
   have ij:n≠i:=fun e=>by subst e;simp at hb
   simp only [cond_false]
   rw [bk];omega
theorem jE: ∀ (t:CTy) (x:E t) (n:Nat),∀ c∈bM t x n,c.inU (fun i=>Nat.ble n i&&Nat.blt i (n + t.nsl))
 | .int _,_,_,c,hc=>by simp only [bM,zK]at hc;subst hc;trivial
 | .bool,_,_,c,hc=>by simp only [bM,zK]at hc;subst hc;trivial
 | .str,_,_,c,hc=>by simp only [bM,zK]at hc;subst hc;trivial
 | .sl _ _,_,n,c,hc=>by
  simp only [bM,zK]at hc;subst hc
  simp [Cell.inU,CTy.nsl,Nat.blt]
 | .fn,_,n,c,hc=>by
  simp only [bM,zK]at hc;subst hc
  simp [Cell.inU,CTy.nsl,Nat.blt]
 | .pair a b,p,n,c,hc=>by
  simp only [bM,w8]at hc
  rcases hc with hc | hc
  ·refine Cell.inU_mono (fun i hi=> ?_) (jE a p.1 n c hc)
   simp only [w3,Nat.ble_eq,Nat.blt,CTy.nsl]at hi ⊢;omega
  ·refine Cell.inU_mono (fun i hi=> ?_) (jE b p.2 _ c hc)
   simp only [w3,Nat.ble_eq,Nat.blt,CTy.nsl]at hi ⊢;omega
theorem ki: ∀ (t:CTy) (x:E t) (n:Nat),(bM t x n).length=t.size
 | .int _,_,_=>rfl
 | .bool,_,_=>rfl
 | .str,_,_=>rfl
 | .sl _ _,_,_=>rfl
 | .fn,_,_=>rfl
 | .pair a b,p,n=>by simp only [bM,w4,CTy.size,ki a,ki b]
theorem Rep.length{H:Nat→Option Obj}: ∀ (t:CTy) (cs:List Value) (x:E t),Rep H t cs x→cs.length=t.size
 | .int _,_,_,h=>by simp only [Rep]at h;rw [h];rfl
 | .bool,_,_,h=>by simp only [Rep]at h;rw [h];rfl
 | .str,_,_,h=>by simp only [Rep]at h;rw [h];rfl
 | .pair a b,_,_,h=>by
  simp only [Rep]at h
  obtain⟨c1,c2,e,h1,h2⟩:=h
  rw [e,w4,Rep.length a _ _ h1,Rep.length b _ _ h2];rfl
 | .sl _ _,_,_,h=>by simp only [Rep]at h;obtain⟨v,e,_⟩:=h;rw [e];rfl
 | .fn,_,_,h=>by simp only [Rep]at h;obtain⟨v,e,_⟩:=h;rw [e];rfl
theorem jv{H:Nat→Option Obj}{α:Type}{p:List Value→α→Prop}{z:Nat}{v:Value}{xs:List α}(h:tp p z H v xs):eM v=v:=by
 rcases h with⟨h,_⟩ | ⟨_,_,_,_,_,_,rfl,_⟩
 ·exact mX h
 ·rfl
theorem kj: ∀ (t:CTy) (cs:List Value) (x:E t) (n:Nat) (ρ:Nm),Rep ρ.mem t cs x→
  ∃ ρ':Nm,ρ'.mem=ρ.mem∧ρ'.fp=ρ.fp∧(∀ i,i < n∨n + t.nsl≤i→ρ' i=ρ i)∧cs=(bM t x n).map (Cell.conc ρ')∧
   (∀ i e,look? (eK t x n) i=some e→(e= .gone∨ ∃ e0 t0 xs,e= .row false e0 t0 xs∧eO ρ.mem t0 (ρ' i) xs)∧n≤i∧i < n + t.nsl)
 | .int k,cs,x,n,ρ,h=>⟨ρ,rfl,rfl,fun _ _=>rfl,by simp only [Rep]at h;rw [h];rfl,fun i e he=>by simp [eK,look?]at he⟩
 | .bool,cs,x,n,ρ,h=>⟨ρ,rfl,rfl,fun _ _=>rfl,by simp only [Rep]at h;rw [h];rfl,fun i e he=>by simp [eK,look?]at he⟩
 | .str,cs,x,n,ρ,h=>⟨ρ,rfl,rfl,fun _ _=>rfl,by simp only [Rep]at h;rw [h];rfl,fun i e he=>by simp [eK,look?]at he⟩
 | .sl e t,cs,xs,n,ρ,h=>by
  simp only [Rep]at h
  obtain⟨v,hv,hr⟩:=h
  refine⟨upd ρ n v,rfl,rfl,fun i hi=> ?_,?_,fun i e' he=> ?_⟩
  ·have:Nat.beq i n=false:=by
    cases hb:Nat.beq i n with
    |false=>rfl
    |true=>have:=q8 hb;simp only [CTy.nsl]at hi;omega
   simp only [Nm.of,upd,this,cond_false]
  ·rw [hv];simp [bM,Cell.conc,Nm.of,upd,jv hr]
  ·simp only [eK]at he
   obtain⟨rfl,rfl⟩:=look?_one he
   refine⟨.inr ⟨e,t,xs,rfl,?_⟩,Nat.le_refl _,by simp [CTy.nsl]⟩
   rw [ax _ _ (jv hr)];exact hr
 | .fn,cs,x,n,ρ,h=>by
  simp only [Rep]at h
  obtain⟨v,hv,hr⟩:=h
  refine⟨upd ρ n v,rfl,rfl,fun i hi=> ?_,?_,fun i e' he=>by
   simp only [eK]at he
   obtain⟨rfl,rfl⟩:=look?_one he
   exact⟨.inl rfl,Nat.le_refl _,by simp [CTy.nsl]⟩⟩
  ·have:Nat.beq i n=false:=by
    cases hb:Nat.beq i n with
    |false=>rfl
    |true=>have:=q8 hb;simp only [CTy.nsl]at hi;omega
   simp only [Nm.of,upd,this,cond_false]
  ·rw [hv];simp [bM,Cell.conc,Nm.of,upd,hr]
 | .pair a b,cs,p,n,ρ,h=>by
  simp only [Rep]at h
  obtain⟨c1,c2,e,h1,h2⟩:=h
  obtain⟨ρ1,m1,f1,k1,e1,r1⟩:=kj a c1 p.1 n ρ h1
  obtain⟨ρ2,m2,f2,k2,e2,r2⟩:=kj b c2 p.2 (n + a.nsl) ρ1 (by rw [m1];exact h2)
  have hk: ∀ i,i < n + a.nsl→ρ2 i=ρ1 i:=fun i hi=>k2 i (.inl hi)
  refine⟨ρ2,m2.trans m1,f2.trans f1,fun i hi=> ?_,?_,fun i e' he=> ?_⟩
  ·simp only [CTy.nsl]at hi
   rw [k2 i (by omega),k1 i (by omega)]
  ·rw [e,e1,e2]
   simp only [bM,List.map_append]
   congr 1
   refine(ch (U:=fun i=>Nat.ble n i&&Nat.blt i (n + a.nsl)) (fun i hi=>hk i ?_) (jE a p.1 n)).symm
   simp only [w3,Nat.ble_eq,Nat.blt]at hi;omega
  ·simp only [eK]at he
   rw [look?_append]at he
   cases hl:look? (eK a p.1 n) i with
   |some e0=>
    simp [hl]at he;subst he
    obtain⟨h0,tn,sH⟩:=r1 i _ hl
    exact⟨h0.imp id fun⟨e1,t1,xs,he1,hr⟩=>⟨e1,t1,xs,he1,by rw [hk i sH];exact hr⟩,tn,by simp only [CTy.nsl];omega⟩
   |none=>
    simp [hl]at he
    obtain⟨h0,tn,sH⟩:=r2 i _ he
    rw [m1]at h0
    exact⟨h0,by omega,by simp only [CTy.nsl];omega⟩
def frz(ent:Nat→Option Entry):List Nat→List (Nat×Entry)
 | []=> []
 |id::r=>match ent id with
  |some (.row true e t xs)=>(id,.row false e t xs)::frz ent r
  |_=>frz ent r
def vP(ent:Nat→Option Entry)(t:CTy):Cell→Option (List (E t)×List Nat)
 | .ref id=>match ent id with
  |some (.row _ _ t' xs)=>if h:t'=t then some (h ▸ xs,[id])else none
  |_=>none
 | .val (.slice none 0 0)=>some ([],[])
 |_=>none
def uQ(k:IntKind):List Cell→Option (Int×List Nat)
 | [.val (.int k' x)]=>if k'=k then some (x,[])else none
 |_=>none
def qW:List Cell→Option (Bool×List Nat)
 | [.val (.bool b)]=>some (b,[])
 |_=>none
def vb:List Cell→Option (ByteArray×List Nat)
 | [.val (.string b)]=>some (b,[])
 |_=>none
def slC(ent:Nat→Option Entry)(t:CTy):List Cell→Option (List (E t)×List Nat)
 | [c]=>vP ent t c
 |_=>none
def fnC:List Cell→Option (Unit×List Nat)
 | [.clo _ _]=>some ((),[])
 | [.bnd _ _]=>some ((),[])
 | [.ref _]=>some ((),[])
 | [.val (.func _ _ _)]=>some ((),[])
 |_=>none
theorem lO{ρ:Nm}{cs:List Cell}{x:Unit}{ids:List Nat}(h:fnC cs=some (x,ids)):(∃ v,cs.map (Cell.conc ρ)= [v]∧eM v=v)∧ids= []:=by
 unfold fnC at h
 split at h
 ·cases h;exact⟨⟨_,rfl,rfl⟩,rfl⟩
 ·cases h;exact⟨⟨_,rfl,rfl⟩,rfl⟩
 ·cases h;exact⟨⟨_,rfl,ge _⟩,rfl⟩
 ·cases h;exact⟨⟨_,rfl,rfl⟩,rfl⟩
 ·cases h
def dy(ent:Nat→Option Entry):(t:CTy)→List Cell→Option (E t×List Nat)
 | .int k,cs=>uQ k cs
 | .bool,cs=>qW cs
 | .str,cs=>vb cs
 | .pair a b,cs=>match dy ent a (cs.take a.size),dy ent b (cs.drop a.size)with
  |some (x,l),some (y,m)=>some ((x,y),l++m)
  |_,_=>none
 | .sl _ t,cs=>slC ent t cs
 | .fn,cs=>fnC cs
theorem look?_frz{ent:Nat→Option Entry}: ∀ {l:List Nat} {i:Nat} {e:Entry},look? (frz ent l) i=some e→ ∃ e0 t xs,ent i=some (.row true e0 t xs)∧e= .row false e0 t xs
 | [],i,e,h=>by simp [frz,look?]at h
 |id::r,i,e,h=>by
  simp only [frz]at h
  split at h
  ·rename_i e0 t xs he
   simp only [look?]at h
   cases hb:Nat.beq id i with
   |true=>
    have:=q8 hb;subst this
    simp at h;exact⟨e0,t,xs,he,h.symm⟩
   |false=>simp [hb]at h;exact look?_frz h
  ·exact look?_frz h
theorem look?_frz_mem{ent:Nat→Option Entry}: ∀ {l:List Nat} {i:Nat} {e0:TypeId} {t:CTy} {xs:List (E t)},i∈l→ent i=some (.row true e0 t xs)→look? (frz ent l) i=some (.row false e0 t xs)
 | [],i,_,_,_,h,_=>by cases h
 |id::r,i,e0,t,xs,h,he=>by
  simp only [frz]
  rcases List.mem_cons.1 h with rfl | h
  ·rw [he];exact look?_same _ _ _
  ·split
   ·rename_i e1 t1 xs1 he1
    simp only [look?]
    cases hb:Nat.beq id i with
    |true=>
     have:=q8 hb;subst this
     rw [he]at he1;cases he1;rfl
    |false=>exact look?_frz_mem h he
   ·exact look?_frz_mem h he
section
variable{B:Base}{ρ:Nm}{ent:Nat→Option Entry}{used:Nat→Bool}{w:World}
theorem Hp.freezes{e0:Nat→Option Entry}(hs: ∀ id e,e0 id=some e→ent id=some e)(h:Hp B ρ ent used w): ∀ (l:List Nat),∃ ρ':Nm,ρ'.nm=ρ.nm∧Ext B used ρ ρ'∧Hp B ρ' (ae ent (frz e0 l)) used w
 | []=>⟨ρ,rfl,Ext.refl _ _ _,h⟩
 |id::r=>by
  obtain⟨ρ1,n1,x1,h1⟩:=Hp.freezes hs h r
  simp only [frz]
  split
  ·rename_i e t xs he
   cases hl:look? (frz e0 r) id with
   |none=>
    have he':ae ent (frz e0 r) id=some (.row true e t xs):=by simp only [ae,hl];exact hs _ _ he
    obtain⟨ρ2,n2,x2,h2⟩:=h1.freeze he'
    rw [cZ]at h2
    exact⟨ρ2,n2.trans n1,x1.trans x2 fun _ h=>h,h2⟩
   |some e1=>
    obtain⟨e9,t0,xs0,h3,h4⟩:=look?_frz hl
    rw [he]at h3;cases h3
    refine⟨ρ1,n1,x1,?_⟩
    rw [show ae ent ((id,Entry.row false e t xs)::frz e0 r)=ae ent (frz e0 r) from funext fun i=>by
     simp only [ae,look?]
     cases hb:Nat.beq id i with
     |true=>have:=q8 hb;subst this;simp [hl,h4]
     |false=>rfl]
    exact h1
  ·exact⟨ρ1,n1,x1,h1⟩
theorem uf{e0:Nat→Option Entry}(hs: ∀ id e,e0 id=some e→ent id=some e){l:List Nat}(h:Hp B ρ (ae ent (frz e0 l)) used w){t:CTy}{c:Cell}{xs:List (E t)}{ids:List Nat}(hc:vP e0 t c=some (xs,ids))(hl: ∀ id∈ids,id∈l):eO ρ.mem t (c.conc ρ) xs:=by
 unfold vP at hc
 split at hc
 ·rename_i id
  split at hc
  ·rename_i own e t' ys he
   split at hc
   ·rename_i ht
    subst ht
    simp only [q9,zZ]at hc
    obtain⟨rfl,rfl⟩:=hc
    cases own with
    |true=>
     have:=look?_frz_mem (hl id (by simp)) he
     have h2:ae ent (frz e0 l) id=some (.row false e t' ys):=by simp only [ae,this]
     exact(h.he id _ h2).1
    |false=>
     cases hq:look? (frz e0 l) id with
     |none=>exact(h.he id _ (by simp only [ae,hq];exact hs _ _ he)).1
     |some e1=>obtain⟨_,_,_,h3,_⟩:=look?_frz hq;rw [he]at h3;cases h3
   ·cases hc
  ·cases hc
 ·simp only [q9,zZ]at hc
  obtain⟨rfl,rfl⟩:=hc
  exact .inl ⟨.inl rfl,rfl⟩
 ·cases hc
theorem fW{e0:Nat→Option Entry}(hs: ∀ id e,e0 id=some e→ent id=some e){l:List Nat}(h:Hp B ρ (ae ent (frz e0 l)) used w): ∀ (t:CTy) (cs:List Cell) (x:E t) (ids:List Nat),dy e0 t cs=some (x,ids)→(∀ id∈ids,id∈l)→Rep ρ.mem t (cs.map (Cell.conc ρ)) x
 | .int k,cs,x,ids,hc,hl=>by
  simp only [dy]at hc
  unfold uQ at hc
  split at hc
  ·split at hc
   ·rename_i hk;subst hk
    cases hc
    exact rfl
   ·cases hc
  ·cases hc
 | .bool,cs,x,ids,hc,hl=>by
  simp only [dy]at hc
  unfold qW at hc
  split at hc
  ·cases hc;exact rfl
  ·cases hc
 | .str,cs,x,ids,hc,hl=>by
  simp only [dy]at hc
  unfold vb at hc
  split at hc
  ·cases hc;exact rfl
  ·cases hc
 | .sl e t,cs,x,ids,hc,hl=>by
  simp only [dy]at hc
  unfold slC at hc
  split at hc
  ·simp only [Rep]
   exact⟨_,rfl,uf hs h hc hl⟩
  ·cases hc
 | .fn,cs,x,ids,hc,hl=>by
  simp only [dy]at hc
  simp only [Rep];exact(lO hc).1
 | .pair a b,cs,x,ids,hc,hl=>by
  simp only [dy]at hc
  split at hc
  ·rename_i x1 l1 y1 m1 h1 h2
   cases hc
   simp only [Rep]
   refine⟨(cs.take a.size).map (Cell.conc ρ),(cs.drop a.size).map (Cell.conc ρ),?_,fW hs h a _ _ _ h1 fun i hi=>hl i (by simp [hi]),fW hs h b _ _ _ h2 fun i hi=>hl i (by simp [hi])⟩
   rw [← List.map_append,List.take_append_drop]
  ·cases hc
end
theorem Rep.one{H:Nat→Option Obj}: ∀ (t:CTy) (cs:List Value) (x:E t),Rep H t cs x→ ∀ u∈cs,u.oneCell'=true
 | .int _,_,_,h,u,hu=>by simp only [Rep]at h;rw [h]at hu;simp at hu;subst hu;rfl
 | .bool,_,_,h,u,hu=>by simp only [Rep]at h;rw [h]at hu;simp at hu;subst hu;rfl
 | .str,_,_,h,u,hu=>by simp only [Rep]at h;rw [h]at hu;simp at hu;subst hu;rfl
 | .pair a b,_,_,h,u,hu=>by
  simp only [Rep]at h
  obtain⟨c1,c2,e,h1,h2⟩:=h
  rw [e]at hu
  rcases w8.1 hu with hu | hu
  ·exact Rep.one a _ _ h1 u hu
  ·exact Rep.one b _ _ h2 u hu
 | .sl _ _,_,_,h,u,hu=>by
  simp only [Rep]at h
  obtain⟨v,e,hv⟩:=h
  rw [e]at hu;simp at hu;subst hu
  rcases hv with⟨rfl | ⟨_,_,rfl⟩,_⟩ | ⟨_,_,_,_,_,_,rfl,_⟩ <;> rfl
 | .fn,_,_,h,u,hu=>by
  simp only [Rep]at h
  obtain⟨v,e,hv⟩:=h
  rw [e]at hu;simp at hu;subst hu
  rw [← hv];exact nG _
theorem cI: ∀ t:CTy,0 < t.size
 | .int _=>by simp [CTy.size]
 | .bool=>by simp [CTy.size]
 | .str=>by simp [CTy.size]
 | .pair a b=>by have:=cI a;simp only [CTy.size];omega
 | .sl _ _=>by simp [CTy.size]
 | .fn=>by simp [CTy.size]
theorem aU.nil(H:Nat→Option Obj)(t:CTy):aU H t [] []:=⟨by simp,fun i x h=>by simp at h⟩
theorem bO{n i z:Nat}(h:i < n):i * z + z≤n * z:=by
 have:(i + 1) * z≤n * z:=Nat.mul_le_mul_right _ h
 rwa [Nat.add_mul,Nat.one_mul]at this
theorem aU.append{H:Nat→Option Obj}{t:CTy}{cs ds:List Value}{xs ys:List (E t)}(h:aU H t cs xs)(h':aU H t ds ys):aU H t (cs++ds) (xs++ys):=by
 refine⟨by rw [w4,w4,h.1,h'.1,Nat.add_mul],fun i x hx=> ?_⟩
 by_cases hi:i < xs.length
 ·have hx':xs[i]? =some x:=by rwa [List.getElem?_append_left hi]at hx
  have:=h.2 i x hx'
  have eP:=bO (z:=t.size) hi
  rw [List.drop_append_of_le_length (by rw [h.1];omega),List.take_append_of_le_length (by rw [List.length_drop,h.1];omega)]
  exact this
 ·have hx':ys[i - xs.length]? =some x:=by rwa [List.getElem?_append_right (by omega)]at hx
  have:=h'.2 _ x hx'
  have hm:i * t.size=xs.length * t.size + (i - xs.length) * t.size:=by rw [← Nat.add_mul];congr 1;omega
  rw [hm,← h.1,List.drop_append,List.drop_eq_nil_of_le (by omega),List.nil_append,Nat.add_sub_cancel_left]
  exact this
theorem aU.one{H:Nat→Option Obj}{t:CTy}{cs:List Value}{x:E t}(h:Rep H t cs x):aU H t cs [x]:=by
 have hl:=Rep.length t cs x h
 refine⟨by simp [hl],fun i y hy=> ?_⟩
 cases i with
 |zero=>simp at hy;subst hy;rw [Nat.zero_mul,List.drop_zero,← hl,List.take_length];exact h
 |succ i=>simp at hy
theorem aU.set{H:Nat→Option Obj}{t:CTy}{cs ds:List Value}{xs:List (E t)}(h:aU H t cs xs){i:Nat}(hi:i < xs.length){y:E t}(hy:Rep H t ds y):
  aU H t (cs.take (i * t.size)++ds++cs.drop (i * t.size + t.size)) (xs.set i y):=by
 have hl:=Rep.length t ds y hy
 have eP:=bO (z:=t.size) hi
 refine⟨by simp only [w4,w5,List.length_drop,h.1,hl,zV];omega,fun j x hx=> ?_⟩
 rw [List.getElem?_set]at hx
 by_cases oa:i=j
 ·subst oa
  simp [hi]at hx;subst hx
  rw [List.append_assoc,List.drop_append,List.drop_take,Nat.sub_self,List.take_zero,List.nil_append,w5,h.1,Nat.min_eq_left (by omega),Nat.sub_self,List.drop_zero,
   List.take_append_of_le_length (by omega),← hl,List.take_length]
  exact hy
 ·simp only [oa,if_false]at hx
  have hj:=(zQ.1 hx).1
  have:=h.2 j x hx
  by_cases bI:j < i
  ·have h1:j * t.size + t.size≤i * t.size:=bO bI
   have e:(cs.take (i * t.size)++ds++cs.drop (i * t.size + t.size)).drop (j * t.size)=(cs.drop (j * t.size)).take (i * t.size - j * t.size)++(ds++cs.drop (i * t.size + t.size)):=by
    rw [List.append_assoc,List.drop_append_of_le_length (by rw [w5,h.1];omega),List.drop_take]
   rw [e,List.take_append_of_le_length (by rw [w5,List.length_drop,h.1];omega),List.take_take,Nat.min_eq_left (by omega)]
   exact this
  ·have hgt:i < j:=by omega
   have h1:i * t.size + t.size≤j * t.size:=bO hgt
   have e:(cs.take (i * t.size)++ds++cs.drop (i * t.size + t.size)).drop (j * t.size)=cs.drop (j * t.size):=by
    rw [List.drop_append,List.drop_eq_nil_of_le (by rw [w4,w5,h.1,hl];omega),List.nil_append,w4,w5,h.1,hl,List.drop_drop]
    congr 1;omega
   rw [e];exact this
theorem eO.cells{H:Nat→Option Obj}{w:World}(hH: ∀ b o,H b=some o→w.heap[b]? =some o){t:CTy}{v:Value}{xs:List (E t)}(h:eO H t v xs):
  (mB v∧xs= [])∨
  ∃ b off cap arr T fz,v= .slice (some ⟨b,off,none⟩) xs.length cap∧xs.length≤cap∧cap≤maxLen∧w.heap[b]? =some (.cells arr T fz)∧H b=some (.cells arr T fz)∧
   (xs= []∨aU H t ((arr.toList.drop off).take (xs.length * t.size)) xs):=by
 rcases h with h | ⟨b,off,cap,arr,T,fz,h1,h2,h3,h4,h5⟩
 ·exact .inl h
 ·refine .inr ⟨b,off,cap,arr,T,fz,h1,h2,h3,hH _ _ h4,h4,?_⟩
  cases to:xs with
  |nil=>exact .inl rfl
  |cons x0 xr=>
   right
   rw [← to]
   have bj:off + xs.length * t.size≤arr.toList.length:=by
    have hlast:xs.length - 1 < xs.length:=by rw [to];simp
    have:=h5 (xs.length - 1) _ (List.getElem?_eq_getElem hlast)
    have hl:=Rep.length t _ _ this
    rw [w5,List.length_drop]at hl
    have hp:=cI t
    have e:xs.length * t.size=(xs.length - 1) * t.size + t.size:=by
     have:(xs.length - 1 + 1) * t.size=(xs.length - 1) * t.size + t.size:=by rw [Nat.add_mul,Nat.one_mul]
     rw [← this];congr 1;omega
    omega
   refine⟨by rw [w5,List.length_drop];omega,fun i x hx=> ?_⟩
   have:=h5 i x hx
   have eP:=bO (z:=t.size) (zQ.1 hx).1
   rw [List.drop_take,List.drop_drop,List.take_take,Nat.min_eq_left (by omega)]
   exact this
end Go.SX
namespace Go.SX
open Go.RowKit
theorem aU.flat0{H H':Nat→Option Obj}{t:CTy}(hf:t.flat=true){cs:List Value}{xs:List (E t)}(h:aU H t cs xs):aU H' t cs xs:=by
 refine⟨h.1,fun i x hx=> ?_⟩
 rw [Rep.flat t _ _ hf (h.2 i x hx)]
 exact Rep.of_flat t x hf
def wy(ent:Nat→Option Entry)(e:TypeId)(t:CTy):Cell→Option (List (E t)×List Nat)
 | .ref id=>match ent id with
  |some (.row true e' t' xs)=>if h:t'=t then(bif Nat.beq e e' then some (h ▸ xs,[id])else none)else none
  |_=>none
 | .val (.slice none 0 0)=>some ([],[])
 |_=>none
def slT(ent:Nat→Option Entry)(e:TypeId)(t:CTy):List Cell→Option (List (E t)×List Nat)
 | [c]=>match t.flat with
  |true=>wy ent e t c
  |false=>none
 |_=>none
def dz(ent:Nat→Option Entry):(t:CTy)→List Cell→Option (E t×List Nat)
 | .int k,cs=>uQ k cs
 | .bool,cs=>qW cs
 | .str,cs=>vb cs
 | .pair a b,cs=>match dz ent a (cs.take a.size),dz ent b (cs.drop a.size)with
  |some (x,l),some (y,m)=>some ((x,y),l++m)
  |_,_=>none
 | .sl e t,cs=>slT ent e t cs
 | .fn,cs=>fnC cs
def lM(ent:Nat→Option Entry)(t:CTy):List Cell→Nat→Option (List (E t)×List (List Nat))
 | [],0=>some ([],[])
 |_::_,0=>none
 |cs,n + 1=>match dz ent t (cs.take t.size),lM ent t (cs.drop t.size) n with
  |some (x,l),some (xs,m)=>some (x::xs,l::m)
  |_,_=>none
theorem jK{α:Type}{l:List α}{k j:Nat}{a b:α}(h:(l.set k a)[j]? =some b):(j=k∧b=a)∨(j≠k∧l[j]? =some b):=by
 by_cases hkj:k=j
 ·subst hkj
  have bI:=(zQ.1 h).1
  rw [zV]at bI
  rw [List.getElem?_set_self bI]at h;cases h;exact .inl ⟨rfl,rfl⟩
 ·rw [List.getElem?_set_ne hkj]at h
  exact .inr ⟨fun h=>hkj h.symm,h⟩
theorem ja{ent:Nat→Option Entry}: ∀ {t:CTy} {cs:List Cell} {x:E t} {ids:List Nat},dz ent t cs=some (x,ids)→ ∀ i∈ids,∃ e t xs,ent i=some (.row true e t xs)
 | .int k,cs,x,ids,hc,i,hi=>by
  simp only [dz]at hc;unfold uQ at hc
  split at hc
  ·split at hc
   ·cases hc;cases hi
   ·cases hc
  ·cases hc
 | .bool,cs,x,ids,hc,i,hi=>by
  simp only [dz]at hc;unfold qW at hc
  split at hc
  ·cases hc;cases hi
  ·cases hc
 | .str,cs,x,ids,hc,i,hi=>by
  simp only [dz]at hc;unfold vb at hc
  split at hc
  ·cases hc;cases hi
  ·cases hc
 | .pair a b,cs,x,ids,hc,i,hi=>by
  simp only [dz]at hc
  split at hc
  ·rename_i h1 h2;cases hc
   rcases w8.1 hi with hi | hi
   ·exact ja h1 i hi
   ·exact ja h2 i hi
  ·cases hc
 | .sl e t,cs,x,ids,hc,i,hi=>by
  simp only [dz]at hc
  unfold slT at hc
  split at hc
  ·split at hc
   ·unfold wy at hc
    split at hc
    ·split at hc
     ·rename_i e' t' ys he'
      split at hc
      ·rename_i ht;subst ht
       cases hb:Nat.beq e e' with
       |false=>rw [hb]at hc;cases hc
       |true=>rw [hb]at hc;simp only [cond_true,q9,zZ]at hc;obtain⟨_,rfl⟩:=hc;simp at hi;subst hi;exact⟨_,_,_,he'⟩
      ·cases hc
     ·cases hc
    ·cases hc;cases hi
    ·cases hc
   ·cases hc
  ·cases hc
 | .fn,cs,x,ids,hc,i,hi=>by
  simp only [dz]at hc
  rw [(lO (ρ:=⟨fun _=> .slice none 0 0,fun _=>none,fun _=> []⟩) hc).2]at hi;cases hi
def gS(G:List Nat):List (Nat×Entry):=G.map fun g=>(g,Entry.gone)
theorem look?_gone: ∀ {G:List Nat} {i:Nat} {e:Entry},look? (gS G) i=some e→i∈G∧e= .gone
 | [],i,e,h=>by simp [gS,look?]at h
 |g::G,i,e,h=>by
  simp only [gS,w9,look?]at h
  cases hb:Nat.beq g i with
  |true=>
   have:=q8 hb;subst this
   simp at h;exact⟨by simp,h.symm⟩
  |false=>
   simp only [hb,cond_false]at h
   obtain⟨h1,h2⟩:=look?_gone (G:=G) h
   exact⟨by simp [h1],h2⟩
theorem look?_gone_mem: ∀ {G:List Nat} {i:Nat},i∈G→look? (gS G) i=some .gone
 | [],i,h=>by cases h
 |g::G,i,h=>by
  simp only [gS,w9,look?]
  cases hb:Nat.beq g i with
  |true=>rfl
  |false=>
   rcases List.mem_cons.1 h with rfl | h
   ·rw [show Nat.beq i i=true from Nat.beq_refl i]at hb;cases hb
   ·exact look?_gone_mem (G:=G) h
section
variable{B:Base}{ρ:Nm}{ent:Nat→Option Entry}{used:Nat→Bool}{w:World}
theorem Hp.fresh_none(h:Hp B ρ ent used w){b:Nat}(hb:w.heap.size≤b):B.mem b=none∧ρ.mem b=none:=by
 constructor
 ·cases hm:B.mem b with
  |none=>rfl
  |some o=>have:=(Array.getElem?_eq_some_iff.1 (h.hf.mem _ _ hm)).1;omega
 ·cases hm:ρ.mem b with
  |none=>rfl
  |some o=>have:=(Array.getElem?_eq_some_iff.1 (h.hf.dat _ _ hm)).1;omega
theorem ug(h:Hp B ρ ent used w){e:TypeId}{t:CTy}{c:Cell}{xs:List (E t)}{ids:List Nat}(hc:wy ent e t c=some (xs,ids))(hf:t.flat=true):
  ∃ ds,dQ w e t.size (c.conc ρ) xs.length ds∧aU (fun _=>none) t ds xs∧(∀ b∈az (c.conc ρ),∃ i∈ids,∃ e0,ent i=some e0∧b∈e0.ob ρ i)∧ ∀ i∈ids,∃ e0,ent i=some e0:=by
 unfold wy at hc
 split at hc
 ·rename_i id
  split at hc
  ·rename_i e' t' ys he
   split at hc
   ·rename_i ht
    subst ht
    cases hb:Nat.beq e e' with
    |false=>rw [hb]at hc;cases hc
    |true=>
     rw [hb]at hc
     simp only [cond_true,q9,zZ]at hc
     obtain⟨rfl,rfl⟩:=hc
     have:=q8 hb;subst this
     obtain⟨ds,h1,h2,_⟩:=(h.he _ _ he).1
     exact⟨ds,h1,aU.flat0 hf h2,fun b hb=>⟨id,by simp,_,he,hb⟩,fun i hi=>by simp at hi;subst hi;exact⟨_,he⟩⟩
   ·cases hc
  ·cases hc
 ·simp only [q9,zZ]at hc
  obtain⟨rfl,rfl⟩:=hc
  exact⟨[],jF _ _ _,aU.nil _ _,fun b hb=>by simp [Cell.conc,az]at hb,fun i hi=>by cases hi⟩
 ·cases hc
theorem gg(h:Hp B ρ ent used w): ∀ (t:CTy) (cs:List Cell) (x:E t) (ids:List Nat),dz ent t cs=some (x,ids)→ids.Nodup→
  ∃ L,bq w t (cs.map (Cell.conc ρ)) x L∧(∀ b∈L,∃ i∈ids,∃ e0,ent i=some e0∧b∈e0.ob ρ i)∧ ∀ i∈ids,∃ e0,ent i=some e0
 | .int k,cs,x,ids,hc,_=>by
  simp only [dz]at hc
  unfold uQ at hc
  split at hc
  ·split at hc
   ·rename_i hk;subst hk
    cases hc
    exact⟨[],⟨rfl,rfl⟩,fun b hb=>(by cases hb),fun i hi=>(by cases hi)⟩
   ·cases hc
  ·cases hc
 | .bool,cs,x,ids,hc,_=>by
  simp only [dz]at hc
  unfold qW at hc
  split at hc
  ·cases hc;exact⟨[],⟨rfl,rfl⟩,fun b hb=>(by cases hb),fun i hi=>(by cases hi)⟩
  ·cases hc
 | .str,cs,x,ids,hc,_=>by
  simp only [dz]at hc
  unfold vb at hc
  split at hc
  ·cases hc;exact⟨[],⟨rfl,rfl⟩,fun b hb=>(by cases hb),fun i hi=>(by cases hi)⟩
  ·cases hc
 | .sl e t,cs,x,ids,hc,_=>by
  simp only [dz]at hc
  unfold slT at hc
  split at hc
  ·rename_i c
   split at hc
   ·rename_i hf
    obtain⟨ds,h1,h2,h3,h4⟩:=ug h hc hf
    exact⟨_,by simp only [bq];exact⟨_,ds,rfl,rfl,hf,h1,h2⟩,h3,h4⟩
   ·cases hc
  ·cases hc
 | .fn,cs,x,ids,hc,_=>by
  simp only [dz]at hc
  obtain⟨h1,h2⟩:=lO hc
  exact⟨[],by simp only [bq];exact⟨h1,trivial⟩,fun b hb=>(by cases hb),fun i hi=>(by rw [h2]at hi;cases hi)⟩
 | .pair a b,cs,x,ids,hc,hd=>by
  simp only [dz]at hc
  split at hc
  ·rename_i x1 l1 y1 m1 h1 h2
   cases hc
   obtain⟨hd1,hd2,hd3⟩:=List.nodup_append.1 hd
   obtain⟨L1,k1,k2,k3⟩:=gg h a _ _ _ h1 hd1
   obtain⟨L2,j1,j2,j3⟩:=gg h b _ _ _ h2 hd2
   refine⟨L1++L2,?_,fun b hb=> ?_,fun i hi=> ?_⟩
   ·simp only [bq]
    refine⟨_,_,L1,L2,?_,rfl,k1,j1,fun k hk hk'=> ?_⟩
    ·rw [← List.map_append,List.take_append_drop]
    ·obtain⟨i,hi,e0,he0,hb0⟩:=k2 k hk
     obtain⟨j,hj,e1,he1,hb1⟩:=j2 k hk'
     have:=h.hi _ _ _ _ k he0 he1 hb0 hb1
     exact hd3 i hi j hj this
   ·rcases w8.1 hb with hb | hb
    ·obtain⟨i,hi,r⟩:=k2 b hb;exact⟨i,List.mem_append_left _ hi,r⟩
    ·obtain⟨i,hi,r⟩:=j2 b hb;exact⟨i,w6 _ hi,r⟩
   ·rcases w8.1 hi with hi | hi
    ·exact k3 i hi
    ·exact j3 i hi
  ·cases hc
theorem mm(h:Hp B ρ ent used w){t:CTy}: ∀ {n:Nat} {cs:List Cell} {xs:List (E t)} {idss:List (List Nat)},lM ent t cs n=some (xs,idss)→(bp idss).Nodup→
  ∃ Ls,hP w ρ t (cs.map (Cell.conc ρ)) xs Ls none∧(∀ (k:Nat) l,Ls[k]? =some l→ ∀ b∈l,∃ ids,idss[k]? =some ids∧ ∃ i∈ids,∃ e0,ent i=some e0∧b∈e0.ob ρ i)∧(∀ i∈bp idss,∃ e0,ent i=some e0)∧xs.length=n∧cs.length=n * t.size
 |0,[],xs,idss,hc,_=>by
  simp only [lM,q9,zZ]at hc
  obtain⟨rfl,rfl⟩:=hc
  exact⟨[],⟨rfl,fun k hc h=>(by cases h),fun i x l _ hx=>by simp at hx,fun i j l l' k hl=>by simp at hl⟩,fun k l hl=>by simp at hl,fun i hi=>by simp [bp]at hi,rfl,by simp⟩
 |0,_::_,xs,idss,hc,_=>by simp [lM]at hc
 |n + 1,cs,xs,idss,hc,hd=>by
  have hc':(match dz ent t (cs.take t.size),lM ent t (cs.drop t.size) n with
   |some (x,l),some (xs,m)=>some (x::xs,l::m)
   |_,_=>none)=some (xs,idss):=by cases cs <;> exact hc
  split at hc'
  ·rename_i x l ys m h1 h2
   simp only [q9,zZ]at hc'
   obtain⟨rfl,rfl⟩:=hc'
   simp only [bp]at hd
   obtain⟨hd1,hd2,hd3⟩:=List.nodup_append.1 hd
   obtain⟨L,k1,k2,k3⟩:=gg h t _ _ _ h1 hd1
   obtain⟨Ls,⟨t1,t2,t3,t4⟩,j2,j3,j4,j5⟩:=mm h h2 hd2
   have bj:(cs.take t.size).length=t.size:=by
    have hr: ∀ (t:CTy) (cs:List Value) (x:E t) (L:List Nat),bq w t cs x L→cs.length=t.size:=by
     intro t
     induction t with
     |int k=>intro cs x L h;simp only [bq]at h;rw [h.1];rfl
     |bool=>intro cs x L h;simp only [bq]at h;rw [h.1];rfl
     |str=>intro cs x L h;simp only [bq]at h;rw [h.1];rfl
     |pair a b iha ihb=>
      intro cs x L h;simp only [bq]at h
      obtain⟨c1,c2,_,_,rfl,_,h1,h2,_⟩:=h
      rw [w4,iha _ _ _ h1,ihb _ _ _ h2];rfl
     |sl e t _=>intro cs x L h;simp only [bq]at h;obtain⟨v,ds,rfl,_⟩:=h;rfl
     |fn=>intro cs x L h;simp only [bq]at h;obtain⟨⟨v,rfl,_⟩,_⟩:=h;rfl
    have:=hr _ _ _ _ k1
    rwa [List.length_map]at this
   have jp:cs.length=t.size + (cs.drop t.size).length:=by
    have:=congrArg List.length (List.take_append_drop t.size cs)
    rw [w4,bj]at this;omega
   have hdrop: ∀ i,(((cs.map (Cell.conc ρ)).drop ((i + 1) * t.size)).take t.size)=((((cs.drop t.size).map (Cell.conc ρ)).drop (i * t.size)).take t.size):=by
    intro i
    rw [List.map_drop,List.drop_drop]
    congr 2
    rw [Nat.add_mul,Nat.one_mul];omega
   have hkey: ∀ (k:Nat) l0,(L::Ls)[k]? =some l0→ ∀ b∈l0,∃ ids,(l::m)[k]? =some ids∧ ∃ i∈ids,∃ e0,ent i=some e0∧b∈e0.ob ρ i:=by
    intro k l0 hl0 b hb
    cases k with
    |zero=>simp at hl0;subst hl0;exact⟨l,rfl,k2 b hb⟩
    |succ k=>exact j2 k l0 (by simpa using hl0) b hb
   refine⟨L::Ls,⟨by simp [t1],fun k hc h=>(by cases h),fun i x' l' _ hx hl=> ?_,fun i j l1 l2 k hi hj hk hk'=> ?_⟩,hkey,fun i hi=> ?_,by simp [j4],by rw [jp,j5,Nat.add_mul,Nat.one_mul];omega⟩
   ·cases i with
    |zero=>
     simp at hx hl;subst hx hl
     rw [Nat.zero_mul,List.drop_zero,← List.map_take];exact k1
    |succ i=>
     rw [hdrop]
     exact t3 i x' l' (fun k hc h=>by cases h) (by simpa using hx) (by simpa using hl)
   ·obtain⟨ids1,q1,i1,hi1,e1,he1,hb1⟩:=hkey i l1 hi k hk
    obtain⟨ids2,q2,i2,hi2,e2,he2,hb2⟩:=hkey j l2 hj k hk'
    have:=h.hi _ _ _ _ k he1 he2 hb1 hb2
    subst this
    have hn: ∀ (L:List (List Nat)) (i j:Nat) (a b:List Nat) (x:Nat),(bp L).Nodup→L[i]? =some a→L[j]? =some b→x∈a→x∈b→i=j:=by
     intro L
     induction L with
     |nil=>intro i j a b x _ h;simp at h
     |cons u r ih=>
      intro i j a b x hn ha hb hxa hxb
      simp only [bp]at hn
      obtain⟨n1,n2,n3⟩:=List.nodup_append.1 hn
      cases i with
      |zero=>
       cases j with
       |zero=>rfl
       |succ j=>
        simp at ha hb;subst ha
        exact(n3 x hxa x (bh.2 ⟨j,b,hb,hxb⟩) rfl).elim
      |succ i=>
       cases j with
       |zero=>
        simp at ha hb;subst hb
        exact(n3 x hxb x (bh.2 ⟨i,a,ha,hxa⟩) rfl).elim
       |succ j=>
        simp at ha hb
        rw [ih i j a b x n2 ha hb hxa hxb]
    exact hn (l::m) i j ids1 ids2 i1 (by simpa [bp] using hd) q1 q2 hi1 hi2
   ·simp only [bp,w8]at hi
    rcases hi with hi | hi
    ·exact k3 i hi
    ·exact j3 i hi
  ·cases hc'
theorem Hp.toTree(h:Hp B ρ ent used w){ρ':Nm}{w':World}{X:Nat→Prop}{G:List Nat}{id:Nat}{new:List Nat}{e:TypeId}{t:CTy}{xs:List (E t)}{ho:Option (Nat×List Cell)}{cs:List Value}{Ls:List (List Nat)}
  (hc:Chg w w' X) (fc: ∀ i,used i=true→ρ' i=ρ i) (eQ:ρ'.mem=ρ.mem) (hfp: ∀ i,i≠id→ρ'.fp i=ρ.fp i) (hG: ∀ g∈G,used g=true)
  (aR:ag used new id=true) (ei:(Entry.tree e t xs ho).inU (ag used new))
  (hX: ∀ k,X k→ ∃ g,(g=id∨g∈G)∧ ∃ e0,ent g=some e0∧k∈e0.ob ρ g)
  (hb: ∀ b,b∈az (ρ' id)++bp Ls→w.heap.size≤b∨ ∃ g,(g=id∨g∈G)∧ ∃ e0,ent g=some e0∧b∈e0.ob ρ g)
  (bv:dQ w' e t.size (ρ' id) xs.length cs) (bw:hP w' ρ' t cs xs Ls ho) (hf:ρ'.fp id=bp Ls) (hdj: ∀ b∈az (ρ' id),b∉bp Ls):
  Ext B used ρ ρ'∧Hp B ρ' (ae ent ((id,.tree e t xs ho)::gS G)) (ag used new) w':=by
 have jb: ∀ i x,look? ((id,Entry.tree e t xs ho)::gS G) i=some x→(i=id∧x= .tree e t xs ho)∨(i≠id∧i∈G∧x= .gone):=by
  intro i x hl
  simp only [look?]at hl
  cases hq:Nat.beq id i with
  |true=>simp [hq]at hl;exact .inl ⟨(q8 hq).symm,hl.symm⟩
  |false=>
   simp only [hq,cond_false]at hl
   obtain⟨h1,h2⟩:=look?_gone hl
   exact .inr ⟨fun he=>by subst he;simp at hq,h1,h2⟩
 have fl: ∀ b,(∃ g,(g=id∨g∈G)∧ ∃ e0,ent g=some e0∧b∈e0.ob ρ g)→Was ent ρ ((id,Entry.tree e t xs ho)::gS G) b:=by
  rintro b ⟨g,hg,e0,h1,h2⟩
  cases hq:Nat.beq id g with
  |true=>
   have:=q8 hq;subst this
   exact⟨id,e0,_,h1,h2,look?_same _ _ _⟩
  |false=>
   rcases hg with rfl | hg
   ·simp at hq
   ·exact⟨g,e0,.gone,h1,h2,by simp only [look?,hq,cond_false];exact look?_gone_mem hg⟩
 refine h.chg hc fc (fun _ _ hb=>by rw [eQ];exact hb) (fun k hk=>fl k (hX k hk)) (fun _ _ hb=> .inl (by rw [← eQ];exact hb)) (fun i x hl=> ?_) (fun i x b hl hb'=> ?_) (fun i i' x x' b hl hl' hb1 hb2=> ?_) (fun i _ hl=> ?_)
 ·rcases jb i x hl with⟨rfl,rfl⟩ | ⟨_,hg,rfl⟩
  ·refine⟨?_,aR,ei⟩
   refine⟨cs,Ls,bv,bw,hf,by rw [hf];exact hdj,fun b hb'=> ?_⟩
   rw [hf]at hb'
   rw [eQ]
   rcases hb b hb' with h6 | ⟨g,_,e0,h1,h2⟩
   ·exact h.fresh_none h6
   ·exact(Entry.ob_lt (h.he g e0 h1).1 h2).2
  ·exact⟨trivial,aD _ (hG _ hg),trivial⟩
 ·rcases jb i x hl with⟨rfl,rfl⟩ | ⟨_,_,rfl⟩
  ·simp only [Entry.ob,hf]at hb'
   exact(hb b hb').imp id (fl b)
  ·cases hb'
 ·rcases jb i x hl with⟨rfl,rfl⟩ | ⟨_,_,rfl⟩
  ·rcases jb i' x' hl' with⟨rfl,rfl⟩ | ⟨_,_,rfl⟩
   ·rfl
   ·cases hb2
  ·cases hb1
 ·refine hfp i fun he=> ?_
  subst he
  rw [look?_same]at hl;cases hl
end
def dx:(t:CTy)→E t→Nat→List (Nat×Entry)
 | .pair a b,p,n=>dx a p.1 n++dx b p.2 (n + a.nsl)
 | .sl e t,xs,n=> [(n,.row true e t xs)]
 |_,_,_=> []
theorem bq.length{w:World}: ∀ {t:CTy} {cs:List Value} {x:E t} {L:List Nat},bq w t cs x L→cs.length=t.size
 | .int _,_,_,_,h=>by simp only [bq]at h;rw [h.1];rfl
 | .bool,_,_,_,h=>by simp only [bq]at h;rw [h.1];rfl
 | .str,_,_,_,h=>by simp only [bq]at h;rw [h.1];rfl
 | .pair a b,_,_,_,h=>by
  simp only [bq]at h
  obtain⟨c1,c2,_,_,rfl,_,h1,h2,_⟩:=h
  rw [w4,h1.length,h2.length];rfl
 | .sl _ _,_,_,_,h=>by simp only [bq]at h;obtain⟨v,ds,rfl,_⟩:=h;rfl
 | .fn,_,_,_,h=>by simp only [bq]at h;obtain⟨⟨v,rfl,_⟩,_⟩:=h;rfl
theorem jh{w:World}: ∀ (t:CTy) (cs:List Value) (x:E t) (L:List Nat) (n:Nat) (ρ:Nm),bq w t cs x L→
  ∃ ρ':Nm,ρ'.mem=ρ.mem∧ρ'.fp=ρ.fp∧(∀ i,i < n∨n + t.nsl≤i→ρ' i=ρ i)∧cs=(bM t x n).map (Cell.conc ρ')∧
   (∀ i e,look? (dx t x n) i=some e→(∃ e0 t0 xs ds,e= .row true e0 t0 xs∧dQ w e0 t0.size (ρ' i) xs.length ds∧aU (fun _=>none) t0 ds xs∧ ∀ b∈az (ρ' i),b∈L)∧n≤i∧i < n + t.nsl)∧
   (∀ i j e e' b,look? (dx t x n) i=some e→look? (dx t x n) j=some e'→b∈az (ρ' i)→b∈az (ρ' j)→i=j)
 | .int k,cs,x,L,n,ρ,h=>⟨ρ,rfl,rfl,fun _ _=>rfl,by simp only [bq]at h;rw [h.1];rfl,fun i e he=>by simp [dx,look?]at he,fun i j e e' b he=>by simp [dx,look?]at he⟩
 | .bool,cs,x,L,n,ρ,h=>⟨ρ,rfl,rfl,fun _ _=>rfl,by simp only [bq]at h;rw [h.1];rfl,fun i e he=>by simp [dx,look?]at he,fun i j e e' b he=>by simp [dx,look?]at he⟩
 | .str,cs,x,L,n,ρ,h=>⟨ρ,rfl,rfl,fun _ _=>rfl,by simp only [bq]at h;rw [h.1];rfl,fun i e he=>by simp [dx,look?]at he,fun i j e e' b he=>by simp [dx,look?]at he⟩
 | .sl e t,cs,xs,L,n,ρ,h=>by
  simp only [bq]at h
  obtain⟨v,ds,hv,hL,hf,ho,hr⟩:=h
  have hs:=bN ho
  refine⟨upd ρ n v,rfl,rfl,fun i hi=> ?_,?_,fun i e' he=> ?_,fun i j e1 e2 b h1 h2 _ _=> ?_⟩
  ·have:Nat.beq i n=false:=by
    cases hb:Nat.beq i n with
    |false=>rfl
    |true=>have:=q8 hb;simp only [CTy.nsl]at hi;omega
   simp only [Nm.of,upd,this,cond_false]
  ·rw [hv];simp [bM,Cell.conc,Nm.of,upd,hs]
  ·simp only [dx]at he
   obtain⟨rfl,rfl⟩:=look?_one he
   refine⟨⟨e,t,xs,ds,rfl,?_,hr,?_⟩,Nat.le_refl _,by simp [CTy.nsl]⟩
   ·rw [ax _ _ hs];exact ho
   ·rw [ax _ _ hs,hL];exact fun _ h=>h
  ·simp only [dx]at h1 h2
   exact(look?_one h1).1.trans (look?_one h2).1.symm
 | .fn,cs,x,L,n,ρ,h=>by
  simp only [bq]at h
  obtain⟨⟨v,hv,hr⟩,_⟩:=h
  refine⟨upd ρ n v,rfl,rfl,fun i hi=> ?_,?_,fun i e' he=>by simp [dx,look?]at he,fun i j e e' b he=>by simp [dx,look?]at he⟩
  ·have:Nat.beq i n=false:=by
    cases hb:Nat.beq i n with
    |false=>rfl
    |true=>have:=q8 hb;simp only [CTy.nsl]at hi;omega
   simp only [Nm.of,upd,this,cond_false]
  ·rw [hv];simp [bM,Cell.conc,Nm.of,upd,hr]
 | .pair a b,cs,p,L,n,ρ,h=>by
  simp only [bq]at h
  obtain⟨c1,c2,L1,L2,e,rfl,h1,h2,h3⟩:=h
  obtain⟨ρ1,m1,f1,k1,e1,r1,d1⟩:=jh a c1 p.1 L1 n ρ h1
  obtain⟨ρ2,m2,f2,k2,e2,r2,d2⟩:=jh b c2 p.2 L2 (n + a.nsl) ρ1 h2
  have hk: ∀ i,i < n + a.nsl→ρ2 i=ρ1 i:=fun i hi=>k2 i (.inl hi)
  have hr: ∀ i e',look? (dx (.pair a b) p n) i=some e'→(∃ e0 t0 xs ds,e'= .row true e0 t0 xs∧dQ w e0 t0.size (ρ2 i) xs.length ds∧aU (fun _=>none) t0 ds xs∧((i < n + a.nsl∧look? (dx a p.1 n) i=some e'∧ ∀ b∈az (ρ2 i),b∈L1)∨(n + a.nsl≤i∧look? (dx b p.2 (n + a.nsl)) i=some e'∧ ∀ b∈az (ρ2 i),b∈L2)))∧n≤i∧i < n + (CTy.pair a b).nsl:=by
   intro i e' he
   simp only [dx]at he
   rw [look?_append]at he
   cases hl:look? (dx a p.1 n) i with
   |some e0=>
    simp [hl]at he;subst he
    obtain⟨⟨e1,t1,xs,ds,he1,hr,hr2,hr3⟩,tn,sH⟩:=r1 i _ hl
    refine⟨⟨e1,t1,xs,ds,he1,by rw [hk i sH];exact hr,hr2,.inl ⟨sH,rfl,by rw [hk i sH];exact hr3⟩⟩,tn,by simp only [CTy.nsl];omega⟩
   |none=>
    simp [hl]at he
    obtain⟨⟨e1,t1,xs,ds,he1,hr,hr2,hr3⟩,tn,sH⟩:=r2 i _ he
    exact⟨⟨e1,t1,xs,ds,he1,hr,hr2,.inr ⟨tn,he,hr3⟩⟩,by omega,by simp only [CTy.nsl];omega⟩
  refine⟨ρ2,m2.trans m1,f2.trans f1,fun i hi=> ?_,?_,fun i e' he=> ?_,fun i j e1 e2 b he he' hb hb'=> ?_⟩
  ·simp only [CTy.nsl]at hi
   rw [k2 i (by omega),k1 i (by omega)]
  ·rw [e,e1,e2]
   simp only [bM,List.map_append]
   congr 1
   refine(ch (U:=fun i=>Nat.ble n i&&Nat.blt i (n + a.nsl)) (fun i hi=>hk i ?_) (jE a p.1 n)).symm
   simp only [w3,Nat.ble_eq,Nat.blt]at hi;omega
  ·obtain⟨⟨e1,t1,xs,ds,he1,hr1,hr2,hr3⟩,tn,sH⟩:=hr i e' he
   refine⟨⟨e1,t1,xs,ds,he1,hr1,hr2,fun b hb=> ?_⟩,tn,sH⟩
   rcases hr3 with⟨_,_,q⟩ | ⟨_,_,q⟩
   ·exact List.mem_append_left _ (q b hb)
   ·exact w6 _ (q b hb)
  ·obtain⟨⟨_,_,_,_,_,_,_,q1⟩,_⟩:=hr i e1 he
   obtain⟨⟨_,_,_,_,_,_,_,q2⟩,_⟩:=hr j e2 he'
   rcases q1 with⟨u1,v1,w1⟩ | ⟨u1,v1,w1⟩ <;> rcases q2 with⟨u2,v2,w2⟩ | ⟨u2,v2,w2⟩
   ·exact d1 i j e1 e2 b v1 v2 (by rw [← hk i u1];exact hb) (by rw [← hk j u2];exact hb')
   ·exact(h3 b (w1 b hb) (w2 b hb')).elim
   ·exact(h3 b (w2 b hb') (w1 b hb)).elim
   ·exact d2 i j e1 e2 b v1 v2 hb hb'
theorem bq.one{w:World}: ∀ {t:CTy} {cs:List Value} {x:E t} {L:List Nat},bq w t cs x L→ ∀ u∈cs,u.oneCell'=true
 | .int _,_,_,_,h,u,hu=>by simp only [bq]at h;rw [h.1]at hu;simp at hu;subst hu;rfl
 | .bool,_,_,_,h,u,hu=>by simp only [bq]at h;rw [h.1]at hu;simp at hu;subst hu;rfl
 | .str,_,_,_,h,u,hu=>by simp only [bq]at h;rw [h.1]at hu;simp at hu;subst hu;rfl
 | .pair _ _,_,_,_,h,u,hu=>by
  simp only [bq]at h
  obtain⟨c1,c2,_,_,rfl,_,h1,h2,_⟩:=h
  rcases w8.1 hu with hu | hu
  ·exact h1.one u hu
  ·exact h2.one u hu
 | .sl _ _,_,_,_,h,u,hu=>by
  simp only [bq]at h
  obtain⟨v,ds,rfl,_,_,ho,_⟩:=h
  simp at hu;subst hu
  rcases ho.2 with⟨hz,_⟩ | ⟨_,_,_,rfl,_⟩
  ·rcases hz with rfl | ⟨_,rfl⟩ <;> rfl
  ·rfl
 | .fn,_,_,_,h,u,hu=>by
  simp only [bq]at h
  obtain⟨⟨v,rfl,hv⟩,_⟩:=h
  simp at hu;subst hu
  rw [← hv];exact nG _
theorem hP.one{w:World}{ρ:Nm}{t:CTy}{cs:List Value}{xs:List (E t)}{Ls:List (List Nat)}(h:hP w ρ t cs xs Ls none)(hl:cs.length=xs.length * t.size): ∀ u∈cs,u.oneCell'=true:=by
 intro u hu
 obtain⟨j,hj⟩:=List.mem_iff_getElem?.1 hu
 have bI:=(zQ.1 hj).1
 have hp:=cI t
 rw [hl]at bI
 have hi:j / t.size < xs.length:=Nat.div_lt_of_lt_mul (by rw [Nat.mul_comm];exact bI)
 refine(h.2.2.1 _ _ _ (fun _ _ h=>by cases h) (List.getElem?_eq_getElem hi) (List.getElem?_eq_getElem (by rw [h.1];exact hi))).one u ?_
 refine List.mem_iff_getElem?.2 ⟨j % t.size,?_⟩
 rw [List.getElem?_take,if_pos (Nat.mod_lt _ hp),List.getElem?_drop,Nat.mul_comm,Nat.div_add_mod]
 exact hj
theorem ot{w:World}{e e':TypeId}{z n:Nat}{v:Value}{cs cs':List Value}(h:dQ w e z v n cs)(h':dQ w e' z v n cs'):cs=cs':=by
 have nilOf: ∀ {l:List Value},l.length=n * z→n=0→l= []:=fun hl hn=>List.length_eq_zero_iff.1 (by rw [hl,hn,Nat.zero_mul])
 rcases h.2 with⟨_,hn⟩ | ⟨g,cap,cur,hv,h0,hg,eP,le,eb,lg⟩
 ·rw [nilOf h.1 hn,nilOf h'.1 hn]
 ·rcases h'.2 with⟨_,hn⟩ | ⟨g',cap',cur',hv',h0',hg',hle',hcm',hsz',htk'⟩
  ·rw [nilOf h.1 hn,nilOf h'.1 hn]
  ·rw [hv]at hv'
   simp only [Value.slice.injEq,q9,Addr.mk.injEq]at hv'
   obtain⟨⟨rfl,_⟩,_,_⟩:=hv'
   rw [hg]at hg';cases hg'
   rw [← lg,← htk']
theorem jY{α:Type}: ∀ (l r:List (List α)),bp (l++r)=bp l++bp r
 | [],r=>rfl
 |a::l,r=>by simp only [List.cons_append,bp,jY l r,List.append_assoc]
theorem hP.append{w:World}{ρ:Nm}{t:CTy}{cs ds:List Value}{xs ys:List (E t)}{Ls Ms:List (List Nat)}(h:hP w ρ t cs xs Ls none)(h':hP w ρ t ds ys Ms none)(hl:cs.length=xs.length * t.size)
  (hd: ∀ b∈bp Ls,b∉bp Ms):hP w ρ t (cs++ds) (xs++ys) (Ls++Ms) none:=by
 refine⟨by simp [h.1,h'.1],fun k hc hh=>(by cases hh),fun i x l _ hx hll=> ?_,fun i j l1 l2 k hi hj hk hk'=> ?_⟩
 ·by_cases hi:i < xs.length
  ·rw [List.getElem?_append_left hi]at hx
   rw [List.getElem?_append_left (by rw [h.1];exact hi)]at hll
   have eP:=bO (z:=t.size) hi
   rw [List.drop_append_of_le_length (by rw [hl];omega),List.take_append_of_le_length (by rw [List.length_drop,hl];omega)]
   exact h.2.2.1 i x l (fun _ _ h=>by cases h) hx hll
  ·rw [List.getElem?_append_right (by omega)]at hx
   rw [List.getElem?_append_right (by rw [h.1];omega),h.1]at hll
   have hm:i * t.size=xs.length * t.size + (i - xs.length) * t.size:=by rw [← Nat.add_mul];congr 1;omega
   rw [hm,← hl,List.drop_append,List.drop_eq_nil_of_le (by omega),List.nil_append,Nat.add_sub_cancel_left]
   exact h'.2.2.1 _ x l (fun _ _ h=>by cases h) hx hll
 ·have side: ∀ (i:Nat) l,(Ls++Ms)[i]? =some l→(i < Ls.length∧Ls[i]? =some l)∨(Ls.length≤i∧Ms[i - Ls.length]? =some l):=by
   intro i l hi
   by_cases bI:i < Ls.length
   ·rw [List.getElem?_append_left bI]at hi;exact .inl ⟨bI,hi⟩
   ·rw [List.getElem?_append_right (by omega)]at hi;exact .inr ⟨by omega,hi⟩
  rcases side i l1 hi with⟨a1,a2⟩ | ⟨a1,a2⟩ <;> rcases side j l2 hj with⟨b1,b2⟩ | ⟨b1,b2⟩
  ·exact h.2.2.2 i j l1 l2 k a2 b2 hk hk'
  ·exact(hd k (bh.2 ⟨_,_,a2,hk⟩) (bh.2 ⟨_,_,b2,hk'⟩)).elim
  ·exact(hd k (bh.2 ⟨_,_,b2,hk'⟩) (bh.2 ⟨_,_,a2,hk⟩)).elim
  ·have:=h'.2.2.2 _ _ l1 l2 k a2 b2 hk hk';omega
theorem hP.one1{w:World}{ρ:Nm}{t:CTy}{cs:List Value}{x:E t}{L:List Nat}(h:bq w t cs x L):hP w ρ t cs [x] [L] none:=by
 refine⟨rfl,fun k hc hh=>(by cases hh),fun i y l _ hy hl=> ?_,fun i j l l' k hi hj _ _=> ?_⟩
 ·cases i with
  |zero=>simp at hy hl;subst hy hl;rw [Nat.zero_mul,List.drop_zero,← h.length,List.take_length];exact h
  |succ i=>simp at hy
 ·have h1:=(zQ.1 hi).1
  have h2:=(zQ.1 hj).1
  simp at h1 h2;omega
theorem hP.nil(w:World)(ρ:Nm)(t:CTy):hP w ρ t [] [] [] none:=⟨rfl,fun k hc hh=>(by cases hh),fun i y l _ hy hl=>(by simp at hy),fun i j l l' k hi hj _ _=>(by simp at hi)⟩
theorem pV: ∀ (n:Nat),bp (zW n ([]:List Nat))= []
 |0=>rfl
 |n + 1=>by rw [List.replicate_succ];simp only [bp,pV n,List.append_nil]
section
variable{B:Base}{ρ:Nm}{ent:Nat→Option Entry}{used:Nat→Bool}{w:World}
theorem sy(h:Hp B ρ ent used w){t:CTy}{cs:List Cell}{x:E t}{ids:List Nat}(hc:dz (fun _=>none) t cs=some (x,ids))(w':World):bq w' t (cs.map (Cell.conc ρ)) x []:=by
 have h0:Hp B ρ (fun _=>none) used w:=⟨fun id e he=>(by cases he),fun id id' e e' b he=>(by cases he),h.hf⟩
 have hids:ids= []:=by
  cases ids with
  |nil=>rfl
  |cons i r=>obtain⟨_,_,_,hh⟩:=ja hc i (by simp);cases hh
 subst hids
 obtain⟨L,d1,d2,_⟩:=gg h0 t cs x [] hc List.nodup_nil
 have hL:L= []:=by
  cases L with
  |nil=>rfl
  |cons b r=>obtain⟨i,hi,_⟩:=d2 b (by simp);cases hi
 subst hL
 exact d1.keep fun b hb=>(by cases hb)
theorem Hp.treeNew(h:Hp B ρ ent used w){nid:Nat}(io:used nid=false){e:TypeId}{t:CTy}{xs:List (E t)}{Ls:List (List Nat)}{G:List Nat}{cs:List Value}{w':World}{v:Value}(hg:w.grownBy w' none)
  (bv:dQ w' e t.size v xs.length cs) (bw:hP w ρ t cs xs Ls none) (hG: ∀ g∈G,used g=true) (hb: ∀ b∈az v,w.heap.size≤b) (hL: ∀ b∈bp Ls,∃ g∈G,∃ e0,ent g=some e0∧b∈e0.ob ρ g):
  ∃ ρ':Nm,ρ' nid=v∧Ext B used ρ ρ'∧Hp B ρ' (ae ent ((nid,.tree e t xs none)::gS G)) (ag used [nid]) w':=by
 have fc: ∀ i,used i=true→upd ρ nid v i=ρ i:=fM io ρ v
 let ρ':Nm:=⟨(upd ρ nid v).nm,ρ.mem,fun i=>bif Nat.beq i nid then bp Ls else ρ.fp i⟩
 have hv:ρ' nid=v:=ax ρ nid (bN bv)
 have bI: ∀ b∈bp Ls,b < w.heap.size:=fun b hb=>bw.blk b hb
 have hc:=Chg.grown hg
 have:=h.toTree (ρ':=ρ') (w':=w') (G:=G) (id:=nid) (new:= [nid]) (e:=e) (t:=t) (xs:=xs) (ho:=none) (cs:=cs) (Ls:=Ls)
  hc fc rfl (fun i hi'=> ?_) hG (by simp [ag,memN]) trivial (fun k hk=>by cases hk) (fun b hb'=> ?_) (by rw [hv];exact bv)
  (bw.keep (fun b hb'=>hc.block b (bI b hb') (fun h=>by cases h)) (fun _ _ h=>by cases h))
  (by show (bif Nat.beq nid nid then _ else _)=_;simp) (fun b h1 h2=> ?_)
 ·exact⟨ρ',hv,this.1,this.2⟩
 ·show (bif Nat.beq i nid then _ else ρ.fp i)=ρ.fp i
  cases hq:Nat.beq i nid with
  |false=>rfl
  |true=>exact(hi' (q8 hq)).elim
 ·rw [hv]at hb'
  rcases w8.1 hb' with h1 | h1
  ·exact .inl (hb b h1)
  ·obtain⟨g,hg,r⟩:=hL b h1;exact .inr ⟨g,.inr hg,r⟩
 ·rw [hv]at h1
  have:=hb b h1
  have:=bI b h2
  omega
theorem qF{used:Nat→Bool}{l:List Nat}{i:Nat}(h:memN l i=true):ag used l i=true:=by simp [ag,h]
theorem Hp.treeOpen(h:Hp B ρ ent used w){id:Nat}{e:TypeId}{t:CTy}{xs:List (E t)}(he:ent id=some (.tree e t xs none)){k:Nat}{x:E t}(hx:xs[k]? =some x){nid:Nat}(io: ∀ i∈ac nid t.nsl,used i=false):
  ∃ ρ':Nm,Ext B used ρ ρ'∧ρ'.mem=ρ.mem∧Hp B ρ' (ae ent ((id,.tree e t xs (some (k,bM t x nid)))::dx t x nid)) (ag used (ac nid t.nsl)) w:=by
 obtain⟨⟨cs,Ls,h1,⟨t1,t2,t3,t4⟩,h3,h4,h5⟩,aR,_⟩:=h.he _ _ he
 have hk:k < xs.length:=(zQ.1 hx).1
 obtain⟨l,hl⟩: ∃ l,Ls[k]? =some l:=⟨_,List.getElem?_eq_getElem (by omega)⟩
 have hd:=t3 k x l (fun _ _ h=>by cases h) hx hl
 obtain⟨ρ1,m1,f1,k1,e1,r1,d1⟩:=jh t _ x l nid ρ hd
 have eQ: ∀ i,i∈ac nid t.nsl↔nid≤i∧i < nid + t.nsl:=fun i=>by
  rw [← bk]
  constructor
  ·intro hi
   have: ∀ (l:List Nat),i∈l→memN l i=true:=by
    intro l
    induction l with
    |nil=>intro h;cases h
    |cons a r ih=>
     intro h
     simp only [memN]
     cases hb:Nat.beq a i with
     |true=>rfl
     |false=>
      rcases List.mem_cons.1 h with rfl | h
      ·simp at hb
      ·exact ih h
   exact this _ hi
  ·intro hi
   have: ∀ (l:List Nat),memN l i=true→i∈l:=by
    intro l
    induction l with
    |nil=>intro h;cases h
    |cons a r ih=>
     intro h
     simp only [memN]at h
     cases hb:Nat.beq a i with
     |true=>have:=q8 hb;simp [this]
     |false=>rw [hb]at h;exact List.mem_cons_of_mem _ (ih h)
   exact this _ hi
 have fc: ∀ i,used i=true→ρ1 i=ρ i:=fun i hi=>k1 i (by
  apply Classical.byContradiction
  intro hn
  have:i∈ac nid t.nsl:=(eQ i).2 (by omega)
  rw [io i this]at hi;cases hi)
 let ρ':Nm:=⟨ρ1.nm,ρ1.mem,fun i=>bif Nat.beq i id then bp (Ls.set k [])else ρ.fp i⟩
 have hρ: ∀ i,ρ' i=ρ1 i:=fun _=>rfl
 have hcon: ∀ c:Cell,c.conc ρ'=c.conc ρ1:=fun c=>Cell.conc_congr (U:=fun _=>true) (fun _ _=>rfl) (by cases c <;> simp [Cell.inU])
 have mj: ∀ b,b∈bp (Ls.set k [])→b∈bp Ls:=by
  intro b hb
  obtain⟨j,l',hj,hb'⟩:=bh.1 hb
  rcases jK hj with⟨_,rfl⟩ | ⟨_,hj⟩
  ·cases hb'
  ·exact bh.2 ⟨j,l',hj,hb'⟩
 have hout: ∀ b∈l,b∉bp (Ls.set k []):=by
  intro b hb hb2
  obtain⟨j,l',hj,hb'⟩:=bh.1 hb2
  rcases jK hj with⟨_,rfl⟩ | ⟨ij,hj⟩
  ·cases hb'
  ·exact ij (t4 k j l l' b hl hj hb hb').symm
 have hfid:ρ'.fp id=bp (Ls.set k []):=by show (bif Nat.beq id id then _ else _)=_;simp
 have hlk: ∀ i x',look? ((id,Entry.tree e t xs (some (k,bM t x nid)))::dx t x nid) i=some x'→(i=id∧x'= .tree e t xs (some (k,bM t x nid)))∨(i≠id∧look? (dx t x nid) i=some x'):=by
  intro i x' hl
  simp only [look?]at hl
  cases hq:Nat.beq id i with
  |true=>simp [hq]at hl;exact .inl ⟨(q8 hq).symm,hl.symm⟩
  |false=>
   simp only [hq,cond_false]at hl
   exact .inr ⟨fun he=>by subst he;simp at hq,hl⟩
 have fl: ∀ b,b∈az (ρ id)++ρ.fp id→Was ent ρ ((id,Entry.tree e t xs (some (k,bM t x nid)))::dx t x nid) b:=fun b hb=>⟨id,_,_,he,hb,look?_same _ _ _⟩
 have hfpl: ∀ b∈l,b∈ρ.fp id:=fun b hb=>by rw [h3];exact bh.2 ⟨k,l,hl,hb⟩
 have eI:=h.chg (ρ':=ρ') (es:=(id,.tree e t xs (some (k,bM t x nid)))::dx t x nid) (new:=ac nid t.nsl) (Chg.refl w (fun _=>False)) (fun i hi=>(hρ i).trans (fc i hi)) (fun b o hb=>by show ρ1.mem b=some o;rw [m1];exact hb) (fun _ hx=>hx.elim)
  (fun b o hb=> .inl (by rw [← m1];exact hb)) (fun i x' hl'=> ?_) (fun i x' b hl' hb=> ?_) (fun i j x1 x2 b hl1 hl2 hb1 hb2=> ?_) (fun i hi hl'=> ?_)
 ·exact⟨ρ',eI.1,m1,eI.2⟩
 ·rcases hlk i x' hl' with⟨rfl,rfl⟩ | ⟨ij,hl2⟩
  ·refine⟨?_,aD _ aR,fun c hc=> ?_⟩
   ·refine⟨cs,Ls.set k [],?_,⟨by simp [t1],fun j hc hj=> ?_,fun j y l' hj hy hl2=> ?_,fun a b l1 l2 q ha hb hq1 hq2=> ?_⟩,hfid,fun b hb hb2=> ?_,fun b hb=> ?_⟩
    ·rw [hρ,fc i aR];exact h1
    ·cases hj
     refine⟨hk,by simp [t1,hk],?_⟩
     rw [e1]
     exact(List.map_congr_left fun c _=>hcon c).symm
    ·have ij:k≠j:=fun hkj=>hj k _ rfl hkj.symm
     rw [List.getElem?_set_ne ij]at hl2
     exact t3 j y l' (fun _ _ h=>by cases h) hy hl2
    ·have hg: ∀ (a:Nat) l1,(Ls.set k [])[a]? =some l1→q∈l1→Ls[a]? =some l1:=by
      intro a l1 ha hq
      rcases jK ha with⟨_,rfl⟩ | ⟨_,ha⟩
      ·cases hq
      ·exact ha
     exact t4 a b l1 l2 q (hg a l1 ha hq1) (hg b l2 hb hq2) hq1 hq2
    ·rw [hρ,fc i aR]at hb
     rw [hfid]at hb2
     exact h4 b hb (by rw [h3];exact mj b hb2)
    ·rw [hρ,fc i aR,hfid]at hb
     show B.mem b=none∧ρ1.mem b=none
     rw [m1]
     refine h5 b ?_
     rcases w8.1 hb with hb | hb
     ·exact List.mem_append_left _ hb
     ·exact w6 _ (by rw [h3];exact mj b hb)
   ·refine Cell.inU_mono (fun j hj=> ?_) (jE t x nid c hc)
    refine qF (bk.2 ?_)
    simp only [w3,Nat.ble_eq,Nat.blt]at hj
    omega
  ·obtain⟨⟨e0,t0,ys,ds,rfl,q1,q2,q3⟩,tn,sH⟩:=r1 i _ hl2
   refine⟨⟨ds,q1,aU.mono (fun _ _ h=>by cases h) q2,fun b hb=> ?_⟩,qF (bk.2 ⟨tn,sH⟩),trivial⟩
   show B.mem b=none∧ρ1.mem b=none
   rw [m1]
   exact h5 b (w6 _ (hfpl b (q3 b hb)))
 ·rcases hlk i x' hl' with⟨rfl,rfl⟩ | ⟨ij,hl2⟩
  ·simp only [Entry.ob]at hb
   rw [hρ,fc i aR,hfid]at hb
   refine .inr (fl b ?_)
   rcases w8.1 hb with hb | hb
   ·exact List.mem_append_left _ hb
   ·exact w6 _ (by rw [h3];exact mj b hb)
  ·obtain⟨⟨e0,t0,ys,ds,rfl,q1,q2,q3⟩,_⟩:=r1 i _ hl2
   exact .inr (fl b (w6 _ (hfpl b (q3 b hb))))
 ·have cq: ∀ j x2,look? (dx t x nid) j=some x2→b∈x2.ob ρ' j→b∈az (ρ' id)++ρ'.fp id→False:=by
   intro j x2 hl2 hb2 hb1
   obtain⟨⟨e0,t0,ys,ds,rfl,q1,q2,q3⟩,_⟩:=r1 j _ hl2
   have hbl:=q3 b hb2
   rw [hρ,fc id aR,hfid]at hb1
   rcases w8.1 hb1 with hb1 | hb1
   ·exact h4 b hb1 (hfpl b hbl)
   ·exact hout b hbl hb1
  rcases hlk i x1 hl1 with⟨rfl,rfl⟩ | ⟨ij,hl1'⟩
  ·rcases hlk j x2 hl2 with⟨rfl,rfl⟩ | ⟨ij,hl2'⟩
   ·rfl
   ·exact(cq j x2 hl2' hb2 hb1).elim
  ·rcases hlk j x2 hl2 with⟨rfl,rfl⟩ | ⟨ij,hl2'⟩
   ·exact(cq i x1 hl1' hb1 hb2).elim
   ·obtain⟨⟨_,_,_,_,rfl,_⟩,_⟩:=r1 i _ hl1'
    obtain⟨⟨_,_,_,_,rfl,_⟩,_⟩:=r1 j _ hl2'
    exact d1 i j _ _ b hl1' hl2' hb1 hb2
 ·show (bif Nat.beq i id then _ else ρ.fp i)=ρ.fp i
  cases hq:Nat.beq i id with
  |false=>rfl
  |true=>
   have:=q8 hq;subst this
   rw [look?_same]at hl';cases hl'
theorem Hp.treeAppend(h:Hp B ρ ent used w){id jd nid:Nat}{e e2:TypeId}{t:CTy}{xs ys:List (E t)}(he:ent id=some (.tree e t xs none))(he2:ent jd=some (.tree e2 t ys none))(ij:id≠jd)(io:used nid=false)
  {w':World} {v':Value} {cs ds:List Value} (hg:Chg w w' (fun k=>k∈az (ρ id))) (fX:dQ w e t.size (ρ id) xs.length cs) (hds:dQ w e2 t.size (ρ jd) ys.length ds) (bv:dQ w' e t.size v' (xs++ys).length (cs++ds)) (hb: ∀ b∈az v',w.heap.size≤b∨b∈az (ρ id)):
  ∃ ρ':Nm,ρ' nid=v'∧Ext B used ρ ρ'∧Hp B ρ' (ae ent ((nid,.tree e t (xs++ys) none)::gS [id,jd])) (ag used [nid]) w':=by
 obtain⟨⟨cs1,Ls,p1,p2,p3,p4,p5⟩,aR,_⟩:=h.he _ _ he
 obtain⟨⟨ds1,Ms,q1,q2,q3,q4,q5⟩,hjd,_⟩:=h.he _ _ he2
 obtain rfl:cs1=cs:=ot p1 fX
 obtain rfl:ds1=ds:=ot q1 hds
 have hi: ∀ b,b∈az (ρ id)++ρ.fp id→b∈az (ρ jd)++ρ.fp jd→False:=fun b h1 h2=>ij (h.hi _ _ _ _ b he he2 h1 h2)
 have fc: ∀ i,used i=true→upd ρ nid v' i=ρ i:=fM io ρ v'
 let ρ':Nm:=⟨(upd ρ nid v').nm,ρ.mem,fun i=>bif Nat.beq i nid then bp (Ls++Ms)else ρ.fp i⟩
 have hv:ρ' nid=v':=ax ρ nid (bN bv)
 have gw: ∀ b,b∈bp Ls∨b∈bp Ms→w'.heap[b]? =w.heap[b]? ∧b < w.heap.size∧b∉az (ρ id):=by
  intro b hb'
  have bI:b < w.heap.size:=hb'.elim (p2.blk b) (q2.blk b)
  have hnb:b∉az (ρ id):=fun hm=>hb'.elim (fun h1=>p4 b hm (by rw [p3];exact h1)) fun h1=>hi b (List.mem_append_left _ hm) (w6 _ (by rw [q3];exact h1))
  exact⟨hg.block b bI hnb,bI,hnb⟩
 have:=h.toTree (ρ':=ρ') (w':=w') (G:= [id,jd]) (id:=nid) (new:= [nid]) (e:=e) (t:=t) (xs:=xs++ys) (ho:=none) (cs:=cs1++ds1) (Ls:=Ls++Ms)
  hg fc rfl (fun i hi'=> ?_) (fun g hg'=> ?_) (by simp [ag,memN]) trivial (fun k hk=>⟨id,.inr (by simp),_,he,List.mem_append_left _ hk⟩) (fun b hb'=> ?_) (by rw [hv];exact bv)
  ((p2.keep (ρ':=ρ') (fun b hb'=>(gw b (.inl hb')).1) (fun _ _ h=>by cases h)).append (q2.keep (fun b hb'=>(gw b (.inr hb')).1) (fun _ _ h=>by cases h)) p1.1 fun b h1 h2=>hi b (w6 _ (by rw [p3];exact h1)) (w6 _ (by rw [q3];exact h2)))
  (by show (bif Nat.beq nid nid then _ else _)=_;simp) (fun b h1 h2=> ?_)
 ·exact⟨ρ',hv,this.1,this.2⟩
 ·show (bif Nat.beq i nid then _ else ρ.fp i)=ρ.fp i
  cases hq:Nat.beq i nid with
  |false=>rfl
  |true=>exact(hi' (q8 hq)).elim
 ·simp only [List.mem_cons,List.not_mem_nil,or_false]at hg'
  rcases hg' with rfl | rfl
  ·exact aR
  ·exact hjd
 ·rw [hv]at hb'
  rcases w8.1 hb' with h1 | h1
  ·rcases hb b h1 with h2 | h2
   ·exact .inl h2
   ·exact .inr ⟨id,.inr (by simp),_,he,List.mem_append_left _ h2⟩
  ·rw [jY]at h1
   rcases w8.1 h1 with h1 | h1
   ·exact .inr ⟨id,.inr (by simp),_,he,w6 _ (by rw [p3];exact h1)⟩
   ·exact .inr ⟨jd,.inr (by simp),_,he2,w6 _ (by rw [q3];exact h1)⟩
 ·rw [hv]at h1
  rw [jY]at h2
  obtain⟨_,k2,k3⟩:=gw b (w8.1 h2)
  rcases hb b h1 with h3 | h3
  ·omega
  ·exact k3 h3
theorem Hp.treeName(h:Hp B ρ ent used w){id nid:Nat}{e:TypeId}{t:CTy}{xs:List (E t)}(he:ent id=some (.tree e t xs none))(io:used nid=false):
  ∃ ρ':Nm,ρ' nid=ρ id∧ρ' id=ρ id∧Ext B used ρ ρ'∧Hp B ρ' (ae ent ((nid,.tree e t xs none)::gS [id])) (ag used [nid]) w:=by
 obtain⟨⟨cs,Ls,p1,p2,p3,p4,p5⟩,aR,_⟩:=h.he _ _ he
 have fc: ∀ i,used i=true→upd ρ nid (ρ id) i=ρ i:=fM io ρ (ρ id)
 let ρ':Nm:=⟨(upd ρ nid (ρ id)).nm,ρ.mem,fun i=>bif Nat.beq i nid then bp Ls else ρ.fp i⟩
 have hv:ρ' nid=ρ id:=ax ρ nid (ge _)
 have:=h.toTree (ρ':=ρ') (w':=w) (X:=fun _=>False) (G:= [id]) (id:=nid) (new:= [nid]) (e:=e) (t:=t) (xs:=xs) (ho:=none) (cs:=cs) (Ls:=Ls)
  (Chg.refl w _) fc rfl (fun i hi'=> ?_) (fun g hg'=> ?_) (by simp [ag,memN]) trivial (fun k hk=>hk.elim) (fun b hb'=> ?_) (by rw [hv];exact p1)
  (p2.keep (fun _ _=>rfl) (fun _ _ h=>by cases h)) (by show (bif Nat.beq nid nid then _ else _)=_;simp) (fun b h1 h2=> ?_)
 ·exact⟨ρ',hv,fc id aR,this.1,this.2⟩
 ·show (bif Nat.beq i nid then _ else ρ.fp i)=ρ.fp i
  cases hq:Nat.beq i nid with
  |false=>rfl
  |true=>exact(hi' (q8 hq)).elim
 ·simp only [List.mem_cons,List.not_mem_nil,or_false]at hg'
  subst hg';exact aR
 ·rw [hv]at hb'
  exact .inr ⟨id,.inr (by simp),_,he,by simp only [Entry.ob,p3];exact hb'⟩
 ·rw [hv]at h1
  exact p4 b h1 (by rw [p3];exact h2)
theorem Hp.treeFreeze(h:Hp B ρ ent used w){id:Nat}{e:TypeId}{t:CTy}{xs:List (E t)}(he:ent id=some (.tree e t xs none)):
  ∃ ρ':Nm,ρ'.nm=ρ.nm∧ρ'.fp=ρ.fp∧Ext B used ρ ρ'∧(∀ b,(∃ o,ρ'.mem b=some o)→(∃ o,ρ.mem b=some o)∨b∈(Entry.tree e t xs none).ob ρ id)∧(∀ b∈(Entry.tree e t xs none).ob ρ id,∃ o,ρ'.mem b=some o)∧Hp B ρ' (ae ent [(id,.row false e t xs)]) used w:=by
 obtain⟨⟨cs,Ls,p1,p2,p3,p4,p5⟩,aR,_⟩:=h.he _ _ he
 have pu:(Entry.tree e t xs none).ob ρ id=az (ρ id)++ρ.fp id:=rfl
 have fl: ∀ b∈az (ρ id)++ρ.fp id,Was ent ρ [(id,.row false e t xs)] b:=fun b hb=>⟨id,_,_,he,hb,look?_same _ _ _⟩
 have bI: ∀ b∈az (ρ id)++ρ.fp id,b < w.heap.size:=fun b hb=>(Entry.ob_lt (h.he _ _ he).1 hb).1
 let ρ':Nm:=⟨ρ.nm,fun b=>if b∈az (ρ id)++ρ.fp id then w.heap[b]? else ρ.mem b,ρ.fp⟩
 have hold: ∀ b o,ρ.mem b=some o→ρ'.mem b=some o:=by
  intro b o hb
  show (if b∈az (ρ id)++ρ.fp id then w.heap[b]? else ρ.mem b)=some o
  split
  ·exact h.hf.dat b o hb
  ·exact hb
 have ei: ∀ b∈az (ρ id)++ρ.fp id,ρ'.mem b=w.heap[b]? :=fun b hb=>by
  show (if b∈az (ρ id)++ρ.fp id then w.heap[b]? else ρ.mem b)=_
  rw [if_pos hb]
 have drep: ∀ (t:CTy) (cs:List Value) (x:E t) (L:List Nat),bq w t cs x L→(∀ b∈L,b∈az (ρ id)++ρ.fp id)→Rep ρ'.mem t cs x:=by
  intro t
  induction t with
  |int k=>intro cs x L hd _;simp only [bq]at hd;simp only [Rep];exact hd.1
  |bool=>intro cs x L hd _;simp only [bq]at hd;simp only [Rep];exact hd.1
  |str=>intro cs x L hd _;simp only [bq]at hd;simp only [Rep];exact hd.1
  |fn=>intro cs x L hd _;simp only [bq]at hd;simp only [Rep];exact hd.1
  |pair a b iha ihb=>
   intro cs x L hd hL
   simp only [bq]at hd
   obtain⟨c1,c2,L1,L2,e1,rfl,h1,h2,_⟩:=hd
   simp only [Rep]
   exact⟨c1,c2,e1,iha _ _ _ h1 fun b hb=>hL b (List.mem_append_left _ hb),ihb _ _ _ h2 fun b hb=>hL b (w6 _ hb)⟩
  |sl e' t' _=>
   intro cs xs L hd hL
   simp only [bq]at hd
   obtain⟨v,ds,rfl,rfl,hf,ho,hr⟩:=hd
   simp only [Rep]
   refine⟨v,rfl,?_⟩
   rcases ho.2 with⟨hz,hn0⟩ | ⟨g,cap,cur,hv,h0,hg,eP,le,eb,lg⟩
   ·exact .inl ⟨hz,List.length_eq_zero_iff.1 hn0⟩
   ·refine .inr ⟨g,0,cap,cur,e',(0,0),hv,eP,le,?_,fun j x hx=> ?_⟩
    ·rw [ei g (hL g (by rw [hv,bC h0];simp))];exact hg
    ·have:=Rep.mono (H':=ρ'.mem) (fun _ _ h=>by cases h) _ _ _ (hr.2 j x hx)
     rw [← lg]at this
     have bI:=bO (z:=t'.size) (zQ.1 hx).1
     rw [List.drop_take,List.take_take]at this
     rw [Nat.zero_add]
     rwa [Nat.min_eq_left (by omega)]at this
 have eI:=h.chg (ρ':=ρ') (es:= [(id,.row false e t xs)]) (new:= []) (Chg.refl w (fun _=>False)) (fun _ _=>rfl) hold (fun _ hx=>hx.elim) (fun b o hb=> ?_) (fun i x hl=> ?_) (fun i x b hl hb'=> ?_) (fun i i' x x' b hl hl' hb1 hb2=> ?_)
 ·refine⟨ρ',rfl,rfl,eI.1,fun b ⟨o,hb⟩=> ?_,fun b hb=> ?_,eI.2⟩
  ·have hb:(if b∈az (ρ id)++ρ.fp id then w.heap[b]? else ρ.mem b)=some o:=hb
   split at hb
   ·rename_i hm;exact .inr hm
   ·exact .inl ⟨o,hb⟩
  ·rw [ei b hb];exact⟨_,Array.getElem?_eq_getElem (bI b hb)⟩
 ·have hb:(if b∈az (ρ id)++ρ.fp id then w.heap[b]? else ρ.mem b)=some o:=hb
  split at hb
  ·rename_i hm;exact .inr ⟨hb,Entry.ob_unf (h.he _ _ he).1 hm hb,.inr (fl b hm)⟩
  ·exact .inl hb
 ·obtain⟨rfl,rfl⟩:=look?_one hl
  refine⟨?_,aR,trivial⟩
  show eO ρ'.mem t (ρ i) xs
  rcases p1.2 with⟨hv,hn0⟩ | ⟨g,cap,cur,hv,h0,hg,eP,le,eb,lg⟩
  ·exact .inl ⟨hv,List.length_eq_zero_iff.1 hn0⟩
  ·refine .inr ⟨g,0,cap,cur,e,(0,0),hv,eP,le,?_,fun j x hx=> ?_⟩
   ·rw [ei g (List.mem_append_left _ (by rw [hv,bC h0];simp))];exact hg
   ·have hj:j < xs.length:=(zQ.1 hx).1
    obtain⟨l,hll⟩: ∃ l,Ls[j]? =some l:=⟨_,List.getElem?_eq_getElem (by rw [p2.1];exact hj)⟩
    have:=drep _ _ _ _ (p2.2.2.1 j x l (fun _ _ h=>by cases h) hx hll) (fun b hb=>w6 _ (by rw [p3];exact bh.2 ⟨j,l,hll,hb⟩))
    rw [← lg]at this
    have bI:=bO (z:=t.size) hj
    rw [List.drop_take,List.take_take]at this
    rw [Nat.zero_add]
    rwa [Nat.min_eq_left (by omega)]at this
 ·obtain⟨rfl,rfl⟩:=look?_one hl
  cases hb'
 ·exact(look?_one hl).1.trans (look?_one hl').1.symm
theorem Hp.treeClose(h:Hp B ρ ent used w){id:Nat}{e:TypeId}{t:CTy}{xs:List (E t)}{k:Nat}{hc:List Cell}(he:ent id=some (.tree e t xs (some (k,hc)))){y:E t}{ids:List Nat}(jp:dz ent t hc=some (y,ids))(hd:ids.Nodup):
  ∃ ρ':Nm,Ext B used ρ ρ'∧Hp B ρ' (ae ent ((id,.tree e t (xs.set k y) none)::gS ids)) used w:=by
 obtain⟨⟨cs,Ls,h1,⟨t1,t2,t3,t4⟩,h3,h4,h5⟩,aR,_⟩:=h.he _ _ he
 obtain⟨hk,hLk,ux⟩:=t2 k hc rfl
 obtain⟨L,d1,d2,d3⟩:=gg h t hc y ids jp hd
 have hidn:id∉ids:=by
  intro hm
  obtain⟨_,_,_,hr⟩:=ja jp id hm
  rw [he]at hr;cases hr
 have hsep: ∀ b∈L,b∉az (ρ id)++ρ.fp id:=by
  intro b hb hb2
  obtain⟨i,hi,e0,he0,hb0⟩:=d2 b hb
  have:=h.hi _ _ _ _ b he0 he hb0 hb2
  subst this;exact hidn hi
 let ρ':Nm:=⟨ρ.nm,ρ.mem,fun i=>bif Nat.beq i id then bp (Ls.set k L)else ρ.fp i⟩
 have hcon: ∀ c:Cell,c.conc ρ'=c.conc ρ:=fun c=>Cell.conc_congr (U:=fun _=>true) (fun _ _=>rfl) (by cases c <;> simp [Cell.inU])
 have eQ: ∀ b,b∈bp (Ls.set k L)→b∈L∨b∈bp Ls:=by
  intro b hb
  obtain⟨j,l',hj,hb'⟩:=bh.1 hb
  rcases jK hj with⟨_,rfl⟩ | ⟨_,hj⟩
  ·exact .inl hb'
  ·exact .inr (bh.2 ⟨j,l',hj,hb'⟩)
 have hgl: ∀ (a:Nat) l1,(Ls.set k L)[a]? =some l1→(a=k∧l1=L)∨(a≠k∧Ls[a]? =some l1):=by
  exact fun a l1 ha=>jK ha
 have:=h.toTree (ρ':=ρ') (w':=w) (X:=fun _=>False) (G:=ids) (id:=id) (new:= []) (e:=e) (t:=t) (xs:=xs.set k y) (ho:=none) (cs:=cs) (Ls:=Ls.set k L)
  (Chg.refl w _) (fun _ _=>rfl) rfl (fun i hi=> ?_) (fun g hg=> ?_) aR trivial (fun _ hx=>hx.elim) (fun b hb=> ?_) (by rw [zV];exact h1) ⟨by simp [t1],fun j hc' hj=>(by cases hj),fun j y' l' _ hy hl2=> ?_,fun a b l1 l2 q ha hb hq1 hq2=> ?_⟩
  (by show (bif Nat.beq id id then _ else _)=_;simp) (fun b hb hb2=> ?_)
 ·exact⟨ρ',this.1,this.2⟩
 ·show (bif Nat.beq i id then _ else ρ.fp i)=ρ.fp i
  cases hq:Nat.beq i id with
  |false=>rfl
  |true=>exact(hi (q8 hq)).elim
 ·obtain⟨e0,he0⟩:=d3 g hg
  exact(h.he g e0 he0).2.1
 ·right
  rcases w8.1 hb with hb | hb
  ·exact⟨id,.inl rfl,_,he,List.mem_append_left _ hb⟩
  ·rcases eQ b hb with hb | hb
   ·obtain⟨i,hi,e0,he0,hb0⟩:=d2 b hb
    exact⟨i,.inr hi,e0,he0,hb0⟩
   ·exact⟨id,.inl rfl,_,he,w6 _ (by rw [h3];exact hb)⟩
 ·rcases hgl j l' hl2 with⟨rfl,rfl⟩ | ⟨ij,hl3⟩
  ·rw [List.getElem?_set_self hk]at hy;cases hy
   rw [ux];exact d1
  ·rw [List.getElem?_set_ne (fun h=>ij h.symm)]at hy
   exact t3 j y' l' (fun a b hab=>by cases hab;exact ij) hy hl3
 ·rcases hgl a l1 ha with⟨rfl,rfl⟩ | ⟨ij,ha'⟩
  ·rcases hgl b l2 hb with⟨rfl,rfl⟩ | ⟨hne2,hb'⟩
   ·rfl
   ·exact(hsep q hq1 (w6 _ (by rw [h3];exact bh.2 ⟨b,l2,hb',hq2⟩))).elim
  ·rcases hgl b l2 hb with⟨rfl,rfl⟩ | ⟨hne2,hb'⟩
   ·exact(hsep q hq2 (w6 _ (by rw [h3];exact bh.2 ⟨a,l1,ha',hq1⟩))).elim
   ·exact t4 a b l1 l2 q ha' hb' hq1 hq2
 ·rcases eQ b hb2 with hb2 | hb2
  ·exact hsep b hb2 (List.mem_append_left _ hb)
  ·exact h4 b hb (by rw [h3];exact hb2)
def eG(ent:Nat→Option Entry):List Nat→List (Nat×Entry)
 | []=> []
 |id::r=>match ent id with
  |some (.row true e t xs)=>(id,.row false e t xs)::eG ent r
  |some (.tree e t xs none)=>(id,.row false e t xs)::eG ent r
  |_=>eG ent r
theorem look?_frzA{ent:Nat→Option Entry}: ∀ {l:List Nat} {i:Nat} {e:Entry},look? (eG ent l) i=some e→i∈l∧ ∃ e0 t xs,(ent i=some (.row true e0 t xs)∨ent i=some (.tree e0 t xs none))∧e= .row false e0 t xs
 | [],i,e,h=>by simp [eG,look?]at h
 |id::r,i,e,h=>by
  have eI: ∀ (e1:TypeId) (t:CTy) (xs:List (E t)),(ent id=some (.row true e1 t xs)∨ent id=some (.tree e1 t xs none))→look? ((id,.row false e1 t xs)::eG ent r) i=some e→
    i∈id::r∧ ∃ e0 t xs,(ent i=some (.row true e0 t xs)∨ent i=some (.tree e0 t xs none))∧e= .row false e0 t xs:=by
   intro e1 t xs he h
   simp only [look?]at h
   cases hb:Nat.beq id i with
   |true=>
    have:=q8 hb;subst this
    simp at h;exact⟨by simp,e1,t,xs,he,h.symm⟩
   |false=>
    simp only [hb,cond_false]at h
    obtain⟨h1,h2⟩:=look?_frzA h
    exact⟨List.mem_cons_of_mem _ h1,h2⟩
  simp only [eG]at h
  split at h
  ·rename_i e1 t xs he;exact eI e1 t xs (.inl he) h
  ·rename_i e1 t xs he;exact eI e1 t xs (.inr he) h
  ·obtain⟨h1,h2⟩:=look?_frzA h
   exact⟨List.mem_cons_of_mem _ h1,h2⟩
theorem look?_frzA_mem{ent:Nat→Option Entry}: ∀ {l:List Nat} {i:Nat} {e0:TypeId} {t:CTy} {xs:List (E t)},i∈l→(ent i=some (.row true e0 t xs)∨ent i=some (.tree e0 t xs none))→look? (eG ent l) i=some (.row false e0 t xs)
 | [],i,_,_,_,h,_=>by cases h
 |id::r,i,e0,t,xs,h,he=>by
  have eI: ∀ (e1:TypeId) (t1:CTy) (xs1:List (E t1)),(ent id=some (.row true e1 t1 xs1)∨ent id=some (.tree e1 t1 xs1 none))→look? ((id,.row false e1 t1 xs1)::eG ent r) i=some (.row false e0 t xs):=by
   intro e1 t1 xs1 he1
   simp only [look?]
   cases hb:Nat.beq id i with
   |true=>
    have:=q8 hb;subst this
    rcases he with he | he <;> rcases he1 with he1 | he1 <;> rw [he]at he1 <;> cases he1 <;> rfl
   |false=>
    rcases List.mem_cons.1 h with rfl | h
    ·rw [show Nat.beq i i=true from Nat.beq_refl i]at hb;cases hb
    ·exact look?_frzA_mem h he
  simp only [eG]
  split
  ·rename_i e1 t1 xs1 he1;exact eI e1 t1 xs1 (.inl he1)
  ·rename_i e1 t1 xs1 he1;exact eI e1 t1 xs1 (.inr he1)
  ·rename_i h1 h2
   rcases List.mem_cons.1 h with rfl | h
   ·rcases he with he | he
    ·exact(h1 _ _ _ he).elim
    ·exact(h2 _ _ _ he).elim
   ·exact look?_frzA_mem h he
theorem Hp.freezeA(h:Hp B ρ ent used w): ∀ (l:List Nat),∃ ρ':Nm,ρ'.nm=ρ.nm∧ρ'.fp=ρ.fp∧Ext B used ρ ρ'∧Hp B ρ' (ae ent (eG ent l)) used w∧
  ∀ i∈l,∀ e,ent i=some e→((∃ e0 t xs,e= .row true e0 t xs)∨ ∃ e0 t xs,e= .tree e0 t xs none)→ ∀ b∈e.ob ρ i,∃ o,ρ'.mem b=some o
 | []=>⟨ρ,rfl,rfl,Ext.refl _ _ _,h,fun i hi=>by cases hi⟩
 |id::r=>by
  obtain⟨ρ1,n1,f1,x1,h1,m1⟩:=Hp.freezeA h r
  have fc: ∀ i,ρ1 i=ρ i:=fun i=>by simp only [Nm.of,n1]
  have hobs: ∀ (e:Entry) i,e.ob ρ1 i=e.ob ρ i:=fun e i=>by
   cases e with
   |row own _ _ _=>cases own <;> simp only [Entry.ob,fc]
   |_=>simp only [Entry.ob,fc,f1]
  have hdone: ∀ e1,look? (eG ent r) id=some e1→eG ent (id::r)=(id,e1)::eG ent r∧id∈r:=by
   intro e1 hl
   obtain⟨hm,e0,t,xs,he,rfl⟩:=look?_frzA hl
   refine⟨?_,hm⟩
   simp only [eG]
   rcases he with he | he <;> rw [he]
  cases hl:look? (eG ent r) id with
  |some e1=>
   obtain⟨q1,q2⟩:=hdone e1 hl
   refine⟨ρ1,n1,f1,x1,?_,fun i hi=>m1 i ?_⟩
   ·rw [q1,show ae ent ((id,e1)::eG ent r)=ae ent (eG ent r) from funext fun i=>by
     simp only [ae,look?]
     cases hb:Nat.beq id i with
     |true=>have:=q8 hb;subst this;simp [hl]
     |false=>rfl]
    exact h1
   ·rcases List.mem_cons.1 hi with rfl | hi
    ·exact q2
    ·exact hi
  |none=>
   have fin: ∀ (e:TypeId) (t:CTy) (xs:List (E t)) (ρ2:Nm) (e1:Entry),ent id=some e1→ae ent (eG ent r) id=some e1→ρ2.nm=ρ1.nm→ρ2.fp=ρ1.fp→Ext B used ρ1 ρ2→(∀ b∈e1.ob ρ1 id,∃ o,ρ2.mem b=some o)→Hp B ρ2 (ae (ae ent (eG ent r)) [(id,.row false e t xs)]) used w→
     ∃ ρ':Nm,ρ'.nm=ρ.nm∧ρ'.fp=ρ.fp∧Ext B used ρ ρ'∧Hp B ρ' (ae ent ((id,.row false e t xs)::eG ent r)) used w∧
      ∀ i∈id::r,∀ e,ent i=some e→((∃ e0 t xs,e= .row true e0 t xs)∨ ∃ e0 t xs,e= .tree e0 t xs none)→ ∀ b∈e.ob ρ i,∃ o,ρ'.mem b=some o:=by
    intro e t xs ρ2 e1 he1 _ n2 f2 x2 m2 h2
    rw [cZ]at h2
    refine⟨ρ2,n2.trans n1,f2.trans f1,x1.trans x2 fun _ h=>h,h2,fun i hi e' he' ho b hb=> ?_⟩
    by_cases hir:i∈r
    ·obtain⟨o,ho⟩:=m1 i hir e' he' ho b hb
     exact⟨o,x2.old b o ho⟩
    ·rcases List.mem_cons.1 hi with rfl | hi
     ·rw [he1]at he';cases he'
      exact m2 b (by rw [hobs];exact hb)
     ·exact(hir hi).elim
   simp only [eG]
   split
   ·rename_i e t xs he
    have he':ae ent (eG ent r) id=some (.row true e t xs):=by simp only [ae,hl];exact he
    obtain⟨ρ2,n2,f2,m2,x2,h2⟩:=h1.freeze' he'
    exact fin e t xs ρ2 _ he he' n2 f2 x2 m2 h2
   ·rename_i e t xs he
    have he':ae ent (eG ent r) id=some (.tree e t xs none):=by simp only [ae,hl];exact he
    obtain⟨ρ2,n2,f2,x2,_,m2,h2⟩:=h1.treeFreeze he'
    exact fin e t xs ρ2 _ he he' n2 f2 x2 m2 h2
   ·rename_i hn1 hn2
    refine⟨ρ1,n1,f1,x1,h1,fun i hi e he ho=> ?_⟩
    rcases List.mem_cons.1 hi with rfl | hi
    ·rcases ho with⟨_,_,_,rfl⟩ | ⟨_,_,_,rfl⟩
     ·exact(hn1 _ _ _ he).elim
     ·exact(hn2 _ _ _ he).elim
    ·exact m1 i hi e he ho
end
end Go.SX
namespace Go.SX
open Go.RowKit
def tX:List (Option CTy)→Option CTy
 | []=>none
 | [t]=>t
 |some t::r=>match tX r with
  |some u=>some (.pair t u)
  |none=>none
 |none::_=>none
def pO(P:Program):Nat→TypeId→Option CTy
 |0,_=>none
 |f + 1,T=>match P.underlying T with
  |some (.int k)=>some (.int k)
  |some .bool=>some .bool
  |some .string=>some .str
  |some (.slice e)=>(pO P f e).map (.sl e)
  |some (.struct fs)=>tX (fs.toList.map fun fd=>pO P f fd.type)
  |some (.array n e)=>tX (zW n (pO P f e))
  |some (.func _ _ _)=>some .fn
  |_=>none
def bA{α:Type}:List (List α)→List α
 | []=> []
 |a::r=>a++bA r
def gp(P:Program):Nat→TypeId→List (Option (TypeId×CTy))
 |0,_=> [none]
 |f + 1,T=>match P.underlying T with
  |some (.slice e)=> [(pO P f e).map fun t=>(e,t)]
  |some (.struct fs)=>bA (fs.toList.map fun fd=>gp P f fd.type)
  |some (.array n e)=>bA (zW n (gp P f e))
  |_=> [none]
def jy:Cell→Bool
 | .val (.slice none 0 0)=>true
 |_=>false
def ll:List (Option (TypeId×CTy))→List Cell→Nat→List Cell
 |some _::ts,c::cs,n=>bif jy c then .ref n::ll ts cs (n + 1)else c::ll ts cs n
 |none::ts,c::cs,n=>c::ll ts cs n
 |_,cs,_=>cs
def qq(tr:Bool)(e:TypeId)(t:CTy):Entry:=
 match tr,t.flat with
 |true,false=> .tree e t [] none
 |_,_=> .row true e t []
def jt(tr:Bool):List (Option (TypeId×CTy))→List Cell→Nat→List (Nat×Entry)
 |some (e,t)::ts,c::cs,n=>bif jy c then(n,qq tr e t)::jt tr ts cs (n + 1)else jt tr ts cs n
 |none::ts,_::cs,n=>jt tr ts cs n
 |_,_,_=> []
structure Fix where
 v:V1
 es:List (Nat×Entry)
def ek(P:Program)(tr:Bool)(T:TypeId)(n:Nat)(v:V1):Fix:=
 match v.cs.any jy with
 |true=>⟨⟨v.agg,ll (gp P 12 T) v.cs n⟩,jt tr (gp P 12 T) v.cs n⟩
 |false=>⟨v,[]⟩
def bH{α:Type}(l:List (Nat×α)):List Nat:=l.map (·.1)
def V1.cells?(v:V1):Option (List Cell):=
 match v.agg,v.cs with
 |true,cs=>some cs
 |false,[.val (.agg _)]=>none
 |false,[c]=>some [c]
 |false,_=>none
def Cell.one:Cell→Bool
 | .val v=>v.oneCell'
 |_=>true
def vG:TypeDesc→Bool
 | .struct _ | .array _ _=>true
 |_=>false
def li(P:Program)(T:TypeId)(off:Nat)(cs:List Cell):Option V1:=
 match P.underlying T,P.info? T with
 |some d,some i=>
  match vG d with
  |true=>bif Nat.ble (off + i.size) cs.length then some ⟨true,(cs.drop off).take i.size⟩else none
  |false=>match cs[off]? with
   |some c=>some ⟨false,[c]⟩
   |none=>none
 |_,_=>none
def dw(P:Program)(T:TypeId)(off n:Nat)(ns:List Cell):Bool:=
 match P.info? T with
 |some i=>Nat.beq ns.length i.size&&Nat.ble (off + ns.length) n&&ns.all Cell.one
 |none=>false
def pR(P:Program)(T:TypeId)(f:Nat):Option Nat:=
 match P.underlying T with
 |some (.struct fs)=>match fs[f]? with
  |some fd=>match P.info? fd.type with
   |some i=>bif Nat.beq i.size 0 then none else some fd.offset
   |none=>none
  |none=>none
 |_=>none
def nh(nA:Nat→Option (Nat×Nat))(cells:List Cell):List (Nat×V1)→Option (List Cell)
 | []=>some cells
 |(i,v)::rest=>match nA i,v.cells? with
  |some (off,size),some ns=>bif Nat.beq ns.length size&&Nat.ble (off + ns.length) cells.length then nh nA (cells.take off++ns++cells.drop (off + ns.length)) rest else none
  |_,_=>none
def nA(P:Program)(fs:Array Field)(i:Nat):Option (Nat×Nat):=
 match fs[i]? with
 |some fd=>match P.info? fd.type with
  |some j=>some (fd.offset,j.size)
  |none=>none
 |none=>none
def Raw.ofV(v:SV):Raw:=⟨v,[],[],[]⟩
def one(c:Cell):SV:= .one ⟨false,[c]⟩
def oE:SV:= .ofValue undef
def vof(look:Nat→Option SS)(A:List (Nat×Bool))(x:Operand):Value:=
 match ev look A x with
 |some v=>match v.toValue? with
  |some u=>u
  |none=>undef
 |none=>undef
def vok(look:Nat→Option SS)(A:List (Nat×Bool))(x:Operand):Bool:=
 match ev look A x with
 |some v=>v.toValue?.isSome
 |none=>false
def fC:Op→List Operand
 | .call c=>(match c.callee with | .value f=> [f] | .invoke r _=> [r] | .builtin _=> [])++c.args.toList
 |op=>op.operands.toList
theorem uS{op:Op}{x:Operand}(h:x∈op.operands):x∈fC op:=by
 cases op with
 |call c=>
  simp only [Op.operands,Call.operands]at h
  simp only [fC]
  cases hc:c.callee <;> simp [hc]at h ⊢ <;> exact h
 |_=>simpa [fC] using h
def fF(P:Program)(look:Nat→Option SS)(A:List (Nat×Bool))(o:Oper):Option Raw:=
 bif(fC o.op).all (vok look A)then
  match ji P (execOp (vof look A) o)with
  |some (.value v)=>some (.ofV (.ofValue v))
  |_=>none
 else none
def evC(look:Nat→Option SS)(A:List (Nat×Bool))(x:Operand):Option Cell:=
 match ev look A x with
 |some (.one ⟨false,[c]⟩)=>some c
 |_=>none
def evI(look:Nat→Option SS)(A:List (Nat×Bool))(x:Operand):Option Int:=
 match evC look A x with
 |some (.val (.int _ i))=>some i
 |_=>none
def ev1(look:Nat→Option SS)(A:List (Nat×Bool))(x:Operand):Option V1:=
 match ev look A x with
 |some (.one v)=>some v
 |_=>none
def evs(look:Nat→Option SS)(A:List (Nat×Bool)):List Operand→Option (List SV)
 | []=>some []
 |x::r=>match ev look A x,evs look A r with
  |some v,some vs=>some (v::vs)
  |_,_=>none
def uP(look:Nat→Option SS)(A:List (Nat×Bool)):List (Nat×Operand)→Option (List (Nat×V1))
 | []=>some []
 |(i,x)::r=>match ev1 look A x,uP look A r with
  |some v,some vs=>some ((i,v)::vs)
  |_,_=>none
def cY(P:Program)(T:TypeId)(t:CTy):Bool:=
 match P.underlying T with
 |some (.slice e)=>match P.info? e with
  |some i=>Nat.beq i.size t.size
  |none=>false
 |_=>false
section
variable(P:Program)(tbl:List (PF P))(tr:Bool)(look:Nat→Option SS)(ent:Nat→Option Entry)(A:List (Nat×Bool))(nid:Nat)
def uB(T:TypeId)(x:Operand):Option Raw:=
 match ev look A x with
 |some (.one v)=>let f:=ek P tr T nid v;some ⟨.one f.v,f.es,bH f.es,[]⟩
 |some v=>some (.ofV v)
 |none=>none
def vO(c x y:Operand):Option Raw:=
 match c,evC look A c with
 | .tmp jc,some (.val (.bool cb))=>match ev look ((jc,true)::A) x,ev look ((jc,false)::A) y with
  |some vx,some vy=>(ew cb vx vy).map Raw.ofV
  |_,_=>none
 |_,_=>none
def tq(T:TypeId):Option Raw:=
 match P.info? T with
 |some i=>match i.zero with
  |some z=>let f:=ek P tr T (nid + 1) ⟨true,z.cells.toList.map .val⟩;some ⟨one (.ptr nid 0),(nid,.box T f.v.cs)::f.es,nid::bH f.es,[]⟩
  |none=>none
 |none=>none
def wN(T:TypeId)(x:Operand):Option Raw:=
 match ev1 look A x with
 |some v=>match v.cells? with
  |some cs=>let f:=ek P tr T (nid + 1) ⟨true,cs⟩;some ⟨one (.ptr nid 0),(nid,.box T f.v.cs)::f.es,nid::bH f.es,[]⟩
  |none=>none
 |none=>none
def vJ(T:TypeId)(x:Operand):Option Raw:=
 match evC look A x with
 |some (.ptr id off)=>match ent id with
  |some (.box _ cs)=>match li P T off cs with
   |some v=>some (.ofV (.one v))
   |none=>none
  |_=>none
 |some (.el id z i off)=>match ent id with
  |some (.row _ _ t xs)=>bif Nat.beq z t.size then
    match li P T off (bM t (xs[i]?.getD (de t)) nid)with
    |some v=>some ⟨.one v,eK t (xs[i]?.getD (de t)) nid,ac nid t.nsl,[decide (i < xs.length)]⟩
    |none=>none
   else none
  |some (.tree e t xs none)=>bif Nat.beq z t.size then
    match li P T off (bM t (xs[i]?.getD (de t)) nid)with
    |some v=>match jS v.cs with
     |some _=>some ⟨.one v,[],[],[decide (i < xs.length)]⟩
     |none=>some ⟨.one v,(id,.tree e t xs (some (i,bM t (xs[i]?.getD (de t)) nid)))::dx t (xs[i]?.getD (de t)) nid,ac nid t.nsl,[decide (i < xs.length)]⟩
    |none=>none
   else none
  |_=>none
 |_=>none
def uj(T:TypeId)(x y:Operand):Option Raw:=
 match evC look A x,ev1 look A y with
 |some (.ptr id off),some v=>match ent id,v.cells? with
  |some (.box U cs),some ns=>bif dw P T off cs.length ns then some ⟨oE,[(id,.box U (cs.take off++ns++cs.drop (off + ns.length)))],[],[]⟩else none
  |_,_=>none
 |some (.el id z i off),some v=>match ent id,v.cells? with
  |some (.row true e t xs),some ns=>bif Nat.beq z t.size&&dw P T off t.size ns&&(t.flat||Nat.beq off 0&&Nat.beq ns.length t.size)then
    let old:=bM t (xs[i]?.getD (de t)) nid
    match dy ent t (old.take off++ns++old.drop (off + ns.length))with
    |some (y,l)=>bif memN l id then none else some ⟨oE,(id,.row true e t (xs.set i y))::frz ent l,[],[decide (i < xs.length)]⟩
    |none=>none
   else none
  |some (.wk e t xs),some ns=>bif Nat.beq z t.size&&dw P T off t.size ns then
    let old:=bM t (xs[i]?.getD (de t)) nid
    match dy ent t (old.take off++ns++old.drop (off + ns.length))with
    |some (y,[])=>some ⟨oE,[(id,.wk e t (xs.set i y))],[],[decide (i < xs.length)]⟩
    |_=>none
   else none
  |some (.tree e t xs none),some ns=>bif Nat.beq z t.size&&dw P T off t.size ns then
    some ⟨oE,(id,.tree e t xs (some (i,(bM t (xs[i]?.getD (de t)) nid).take off++ns++(bM t (xs[i]?.getD (de t)) nid).drop (off + ns.length))))::dx t (xs[i]?.getD (de t)) nid,ac nid t.nsl,[decide (i < xs.length)]⟩
   else none
  |_,_=>none
 |_,_=>none
def mK(T:TypeId)(x:Operand)(f:Nat):Option Raw:=
 match evC look A x,pR P T f with
 |some (.ptr id off),some d=>some (.ofV (one (.ptr id (off + d))))
 |some (.el id z i off),some d=>some (.ofV (one (.el id z i (off + d))))
 |_,_=>none
def tI(T:TypeId)(x:Operand)(f:Nat):Option Raw:=
 match ev1 look A x,P.underlying T with
 |some ⟨true,cs⟩,some (.struct fs)=>match fs[f]? with
  |some fd=>match li P fd.type fd.offset cs with
   |some v=>some (.ofV (.one v))
   |none=>none
  |none=>none
 |_,_=>none
def ol(x:Operand):Option Raw:=
 match evC look A x with
 |some (.val _)=>none
 |some (.ref _)=>none
 |some (.vw _ _ _)=>none
 |some c=>some (.ofV (one c))
 |none=>none
def mM(T:TypeId)(x ix:Operand):Option Raw:=
 match evC look A x,evI look A ix with
 |some (.ref id),some i=>match ent id with
  |some (.row _ _ t xs)=>bif cY P T t then some ⟨one (.el id t.size i.toNat 0),[],[],[decide (0≤i),decide (i < xs.length)]⟩else none
  |some (.tree _ t xs none)=>bif cY P T t then some ⟨one (.el id t.size i.toNat 0),[],[],[decide (0≤i),decide (i < xs.length)]⟩else none
  |some (.wk _ t xs)=>bif cY P T t then some ⟨one (.el id t.size i.toNat 0),[],[],[decide (0≤i),decide (i < xs.length)]⟩else none
  |_=>none
 |some (.ptr id off),some i=>match P.underlying T with
  |some (.array n e)=>match P.info? e with
   |some inf=>some ⟨one (.ptr id (off + i.toNat * inf.size)),[],[],[decide (0≤i),decide (i < n)]⟩
   |none=>none
  |_=>none
 |_,_=>none
def tP(T:TypeId)(x ix:Operand):Option Raw:=
 match evC look A x,evI look A ix,P.underlying T with
 |some (.val (.string s)),some i,some .string=>some ⟨one (.val (.int .u8 (s[i.toNat]?.getD 0).toNat)),[],[],[decide (0≤i),decide (i < s.size)]⟩
 |_,_,_=>none
def bnd(x:Option Operand)(d:Int):Option Int:=
 match x with
 |none=>some d
 |some y=>evI look A y
def uh(fr:Bool)(T:TypeId)(x:Operand)(lo hi mx:Option Operand):Option Raw:=
 match mx,evC look A x with
 |none,some (.val (.string s))=>match bnd look A lo 0,bnd look A hi s.size,P.underlying T with
  |some l,some h,some .string=>some ⟨one (.val (.string (s.extract l.toNat h.toNat))),[],[],[decide (0≤l),decide (l≤h),decide (h≤s.size)]⟩
  |_,_,_=>none
 |none,some (.ref id)=>match ent id with
  |some (.row own e t xs)=>match bnd look A lo 0,bnd look A hi xs.length with
   |some l,some h=>bif cY P T t then
     match own,lo,fr with
     |true,none,false=>some ⟨one (.ref nid),[(nid,.row true e t (xs.take h.toNat)),(id,.gone)],[nid],[decide (0≤h),decide (h≤xs.length)]⟩
     |_,_,_=>some ⟨one (.ref nid),(nid,.row false e t ((xs.take h.toNat).drop l.toNat))::frz ent [id],[nid],[decide (0≤l),decide (l≤h),decide (h≤xs.length)]⟩
    else none
   |_,_=>none
  |_=>none
 |_,_=>none
def uX:List SV→Option (List Nat)
 | []=>some []
 | .one ⟨false,[.ptr id 0]⟩::r=>(uX r).map (id:: ·)
 |_::_=>none
def tw:List Cell→Option (List (Nat×Option Value))
 | []=>some []
 | .ref id::r=>(tw r).map ((id,none):: ·)
 | .val v::r=>(tw r).map ((0,some v):: ·)
 |_::_=>none
def oh(fn:Fn)(first captured:Array Operand):Option Raw:=
 match fn,first.toList,evs look A captured.toList with
 | .func f,[x],some []=>match ev look A x with
  |some (.one ⟨true,cs⟩)=>match tw cs with
   |some vs=>some (.ofV (one (.bnd f vs)))
   |none=>none
  |_=>none
 | .func f,[],some vs=>match vs with
  | []=>some (.ofV (one (.val (.func (.func f) #[] #[]))))
  |_=>match uX vs with
   |some ids=>some (.ofV (one (.clo f ids)))
   |none=>none
 |_,_,_=>none
def mN(T:TypeId)(l c:Operand):Option Raw:=
 match evI look A l,evI look A c,P.underlying T with
 |some n,some m,some (.slice e)=>match P.info? e,pO P 12 e with
  |some inf,some t=>match inf.zero with
   |some z=>match dy (fun _=>none) t (z.cells.toList.map .val)with
    |some (x0,_)=>bif Nat.beq inf.size t.size&&Nat.beq z.cells.size t.size then
      bif tr&& !t.flat then
       (match dz (fun _=>none) t (z.cells.toList.map .val)with
       |some (y0,_)=>some ⟨one (.ref nid),[(nid,.tree e t (zW n.toNat y0) none)],[nid],[decide (0≤n),decide (n≤m),decide ((inf.bytes:Int) * m≤281474976710656),decide (m≤9223372036854775807)]⟩
       |none=>none)
      else some ⟨one (.ref nid),[(nid,.row true e t (zW n.toNat x0))],[nid],[decide (0≤n),decide (n≤m),decide ((inf.bytes:Int) * m≤281474976710656),decide (m≤9223372036854775807)]⟩
     else none
    |none=>none
   |none=>none
  |_,_=>none
 |_,_,_=>none
def kf:List Nat→Bool
 | []=>true
 |i::r=> !memN r i&&kf r
def nS(t:CTy):List Cell→Nat→Option (List (E t)×List Nat)
 | [],0=>some ([],[])
 |_::_,0=>none
 |cs,n + 1=>match dy ent t (cs.take t.size),nS t (cs.drop t.size) n with
  |some (x,l),some (xs,m)=>some (x::xs,l++m)
  |_,_=>none
def kV(T:TypeId)(len:Nat)(parts:Array (Nat×Operand)):Option Raw:=
 match P.underlying T,uP look A parts.toList with
 |some (.slice e),some vs=>match P.info? e,pO P 12 e with
  |some inf,some t=>match inf.zero with
   |some z=>match nh (fun i=>some (i * t.size,t.size)) (bA (zW len (z.cells.toList.map .val))) vs with
    |some cs=>bif tr&& !t.flat then
      (match lM ent t cs len with
      |some (xs,l)=>bif Nat.beq inf.size t.size&&Nat.beq z.cells.size t.size&&Nat.ble (len * t.size) 16777216&&kf (bp l)then
        some ⟨one (.ref nid),(nid,.tree e t xs none)::gS (bp l),[nid],[]⟩
       else none
      |none=>none)
     else
      (match nS ent t cs len with
      |some (xs,l)=>bif Nat.beq inf.size t.size&&Nat.beq z.cells.size t.size&&Nat.ble (len * t.size) 16777216 then
        some ⟨one (.ref nid),(nid,.row true e t xs)::frz ent l,[nid],[]⟩
       else none
      |none=>none)
    |none=>none
   |none=>none
  |_,_=>none
 |_,_=>none
def tz(T:TypeId)(parts:Array (Nat×Operand)):Option Raw:=
 match P.underlying T,P.info? T,uP look A parts.toList with
 |some (.struct fs),some inf,some vs=>match inf.zero with
  |some z=>match nh (nA P fs) (z.cells.toList.map .val) vs with
   |some cs=>bif fs.all (fun fd=>(P.info? fd.type).isSome)then let f:=ek P tr T nid ⟨true,cs⟩;some ⟨.one f.v,f.es,bH f.es,[]⟩else none
   |none=>none
  |none=>none
 |_,_,_=>none
def wQ(op:BinOp)(x y:Operand):Option Raw:=
 match op,evC look A x,evC look A y with
 | .quo,some (.val (.int k a)),some (.val (.int k' b))=>if k=k' then some ⟨one (.val (.int k (k.wrap (a.tdiv b)))),[],[],[decide (b≠0)]⟩else none
 | .rem,some (.val (.int k a)),some (.val (.int k' b))=>if k=k' then some ⟨one (.val (.int k (a.tmod b))),[],[],[decide (b≠0)]⟩else none
 | .shl,some (.val (.int k a)),some (.val (.int _ b))=>some ⟨one (.val (.int k (k.wrap (a * 2 ^ (min b.toNat k.bits))))),[],[],[decide (0≤b)]⟩
 | .shr,some (.val (.int k a)),some (.val (.int _ b))=>some ⟨one (.val (.int k (a.fdiv (2 ^ (min b.toNat k.bits))))),[],[],[decide (0≤b)]⟩
 |_,_,_=>none
def ik(T:Option TypeId):Bool:=
 match T with
 |some t=>match P.underlying t with
  |some (.slice _)=>true
  |_=>false
 |none=>false
def wX(ts:Array TypeId)(x:Operand):Option Raw:=
 match evC look A x with
 |some (.ref id)=>match ent id with
  |some (.row _ _ _ xs)=>bif ik P ts[0]? then some (.ofV (one (.val (.int .i64 xs.length))))else none
  |some (.tree _ _ xs _)=>bif ik P ts[0]? then some (.ofV (one (.val (.int .i64 xs.length))))else none
  |some (.wk _ _ xs)=>bif ik P ts[0]? then some (.ofV (one (.val (.int .i64 xs.length))))else none
  |_=>none
 |_=>none
def rG(ts:Array TypeId)(x y:Operand):Option Raw:=
 match evC look A x,evC look A y,ts.toList with
 |some (.ref id),some (.ref jd),[t1,t2]=>match ent id,ent jd with
  |some (.row true e t xs),some (.row _ _ t' ys)=>match P.underlying t1,P.info? e with
   |some (.slice e'),some inf=>match inf.zero with
    |some z=>if h:t'=t then
      bif Nat.beq t1 t2&&Nat.beq e' e&&Nat.beq inf.size t.size&&Nat.beq z.cells.size t.size then
       some ⟨one (.ref nid),[(nid,.row true e t (xs++(h ▸ ys))),(id,.gone)],[nid],[decide (xs.length + ys.length≤9223372036854775807),decide ((xs.length + ys.length) * inf.bytes≤140737488355328)]⟩
      else none
     else none
    |none=>none
   |_,_=>none
  |some (.tree e t xs none),some (.tree _ t' ys none)=>match P.underlying t1,P.info? e with
   |some (.slice e'),some inf=>match inf.zero with
    |some z=>if h:t'=t then
      bif Nat.beq t1 t2&&Nat.beq e' e&&Nat.beq inf.size t.size&&Nat.beq z.cells.size t.size&& !Nat.beq id jd then
       some ⟨one (.ref nid),[(nid,.tree e t (xs++(h ▸ ys)) none),(id,.gone),(jd,.gone)],[nid],[decide (xs.length + ys.length≤9223372036854775807),decide ((xs.length + ys.length) * inf.bytes≤140737488355328)]⟩
      else none
     else none
    |none=>none
   |_,_=>none
  |_,_=>none
 |some (.ref id),some (.val (.slice (some _) 0 _)),[t1,t2]=>match ent id with
  |some (.row true e t xs)=>match P.underlying t1,P.info? e with
   |some (.slice e'),some inf=>match inf.zero with
    |some z=>
      bif Nat.beq t1 t2&&Nat.beq e' e&&Nat.beq inf.size t.size&&Nat.beq z.cells.size t.size then
       some ⟨one (.ref nid),[(nid,.row true e t xs),(id,.gone)],[nid],[decide (xs.length≤9223372036854775807),decide (xs.length * inf.bytes≤140737488355328)]⟩
      else none
    |none=>none
   |_,_=>none
  |_=>none
 |some (.ref id),some (.val (.slice none 0 0)),[t1,t2]=>match ent id with
  |some (.row true e t xs)=>match P.underlying t1,P.info? e with
   |some (.slice e'),some inf=>match inf.zero with
    |some z=>
      bif Nat.beq t1 t2&&Nat.beq e' e&&Nat.beq inf.size t.size&&Nat.beq z.cells.size t.size then
       some ⟨one (.ref nid),[(nid,.row true e t xs),(id,.gone)],[nid],[decide (xs.length≤9223372036854775807),decide (xs.length * inf.bytes≤140737488355328)]⟩
      else none
    |none=>none
   |_,_=>none
  |_=>none
 |_,_,_=>none
end
end Go.SX
namespace Go.SX
open Go.RowKit
structure Ctx (B:Base) (ρ:Nm) (s:St) (a:Act) (w:World) (look:Nat→Option SS) (ent:Nat→Option Entry) (A:List (Nat×Bool)):Prop where
 hM:Mdl B ρ s a w
 hL: ∀ k x,look k=some x→s.look k=some x
 hE: ∀ id e,ent id=some e→s.ent id=some e
 hA: ∀ q∈A,yl a.tmps q.1=some q.2
def be(B:Base)(s:St)(ρ:Nm)(r:Raw)(o:Oper)(a:Act)(K:Act→World→Prop):Prop:= ∀ (ρ':Nm) (u:Value) (w':World),Ext B s.used ρ ρ'→u=r.v.conc ρ'→Hp B ρ' (ae s.ent r.es) (ag s.used r.new) w'→K (a.put o.dst u) w'
section
variable{P:Program}{tbl:List (PF P)}{tr:Bool}{s:St}{look:Nat→Option SS}{ent:Nat→Option Entry}{A:List (Nat×Bool)}{nid:Nat}{o:Oper}{r:Raw}{B:Base}{ρ:Nm}{a:Act}{w:World}{K:Act→World→Prop}{Q:Exit→Act→World→Prop}
theorem Ctx.ev(c:Ctx B ρ s a w look ent A){x:Operand}{v:SV}(h:ev look A x=some v):a.eval x=v.conc ρ∧v.inU s.used:=⟨pt c.hM c.hL c.hA h,wR c.hM c.hL h⟩
theorem Ctx.evC(c:Ctx B ρ s a w look ent A){x:Operand}{v:Cell}(h:evC look A x=some v):a.eval x=v.conc ρ∧v.inU s.used:=by
 unfold SX.evC at h
 split at h
 ·rename_i u hu
  cases h
  obtain⟨h1,h2⟩:=c.ev hu
  exact⟨h1,h2 _ (by simp)⟩
 ·cases h
theorem Ctx.evI(c:Ctx B ρ s a w look ent A){x:Operand}{i:Int}(h:evI look A x=some i): ∃ k,a.eval x= .int k i:=by
 unfold SX.evI at h
 split at h
 ·rename_i k i' hu
  cases h
  exact⟨k,(c.evC hu).1⟩
 ·cases h
theorem Ctx.ev1(c:Ctx B ρ s a w look ent A){x:Operand}{v:V1}(h:ev1 look A x=some v):a.eval x=v.conc ρ∧v.inU s.used:=by
 unfold SX.ev1 at h
 split at h
 ·rename_i u hu
  cases h
  exact c.ev hu
 ·cases h
theorem Ctx.hp(c:Ctx B ρ s a w look ent A):Hp B ρ s.ent s.used w:=c.hM.hp
theorem V1.cells?_conc(ρ:Nm){v:V1}{cs:List Cell}(h:v.cells? =some cs):(v.conc ρ).cells=(cs.map (Cell.conc ρ)).toArray:=by
 obtain⟨g,l⟩:=v
 unfold V1.cells? at h
 split at h
 ·rename_i e1;simp only at e1 h;subst e1;cases h;rfl
 ·cases h
 ·rename_i c ij e1 e2
  simp only at e1 e2;subst e1 e2;cases h
  show ((V1.mk false [c]).conc ρ).cells=_
  simp only [V1.conc]
  cases c with
  |val v=>
   cases v with
   |agg x=>exact(ij x rfl).elim
   |_=>rfl
  |ref id=>simp only [Cell.conc,w9,List.map_nil];exact qE _
  |vw id z k=>simp only [Cell.conc,w9,List.map_nil];exact qE _
  |_=>rfl
 ·cases h
theorem V1.cells?_inU{U:Nat→Bool}{v:V1}{cs:List Cell}(hv:v.inU U)(h:v.cells? =some cs): ∀ c∈cs,c.inU U:=by
 obtain⟨g,l⟩:=v
 unfold V1.cells? at h
 split at h
 ·cases h;exact hv
 ·cases h
 ·rename_i e1 e2;simp only at e1 e2;subst e1 e2;cases h;exact hv
 ·cases h
theorem aa{u:Value}{w':World}(hr:(execOp a.eval o).run P w= .ok (.value u) w')(h:K (a.put o.dst u) w'):o.wp P a w K Q:=by
 unfold Oper.wp;rw [hr];exact h
theorem gM{w':World}(hr:(execOp a.eval o).run P w= .ok .skip w')(h:K (a.put o.dst undef) w'):o.wp P a w K Q:=by
 unfold Oper.wp;rw [hr];exact h
theorem be.same{v:SV}{nd:List Bool}(hr:r=⟨v,[],[],nd⟩)(hC:be B s ρ r o a K){w':World}(hp:Hp B ρ s.ent s.used w'):K (a.put o.dst (v.conc ρ)) w':=by
 subst hr
 exact hC ρ _ w' (Ext.refl _ _ _) rfl hp
def ex(ρ:Nm)(L:List Nat):Nm:=⟨fun i=>bif memN L i then .slice none 0 0 else ρ.nm i,ρ.mem,fun i=>bif memN L i then []else ρ.fp i⟩
theorem memN_mem: ∀ {l:List Nat} {i:Nat},memN l i=true↔i∈l
 | [],i=>by simp [memN]
 |p::l,i=>by
  simp only [memN,List.mem_cons]
  cases hb:Nat.beq p i with
  |true=>have:=q8 hb;simp [this]
  |false=>
   have ij:p≠i:=fun e=>by subst e;simp at hb
   simp only [cond_false,memN_mem]
   constructor
   ·exact .inr
   ·rintro(rfl | h)
    ·exact(ij rfl).elim
    ·exact h
theorem tQ{c:Cell}(h:jy c=true)(ρ:Nm):c.conc ρ= .slice none 0 0:=by
 unfold jy at h
 split at h
 ·rfl
 ·cases h
theorem lR{ρ:Nm}{L:List Nat}: ∀ (ts:List (Option (TypeId×CTy))) (cs:List Cell) (n:Nat),(∀ i∈bH (jt tr ts cs n),i∈L)→(∀ c∈cs,c.conc (ex ρ L)=c.conc ρ)→
  (ll ts cs n).map (Cell.conc (ex ρ L))=cs.map (Cell.conc ρ)
 | [],cs,n,_,hc=>by simp only [ll];exact List.map_congr_left hc
 |none::ts,[],n,_,hc=>rfl
 |some _::ts,[],n,_,hc=>rfl
 |none::ts,c::cs,n,hk,hc=>by
  simp only [ll,w9]
  rw [hc c (by simp),lR ts cs n hk fun c hm=>hc c (by simp [hm])]
 |some (e,t)::ts,c::cs,n,hk,hc=>by
  simp only [ll]
  simp only [jt]at hk
  cases hn:jy c with
  |true=>
   simp only [hn,cond_true]at hk ⊢
   simp only [w9]
   rw [lR ts cs (n + 1) (fun i hi=>hk i (by simp [bH]at hi ⊢;exact .inr hi)) fun c hm=>hc c (by simp [hm])]
   have:memN L n=true:=memN_mem.2 (hk n (by simp [bH]))
   rw [tQ hn]
   simp [Cell.conc,Nm.of,ex,this,eM]
  |false=>
   simp only [hn,cond_false]at hk ⊢
   simp only [w9]
   rw [hc c (by simp),lR ts cs n hk fun c hm=>hc c (by simp [hm])]
theorem lS: ∀ (ts:List (Option (TypeId×CTy))) (cs:List Cell) (n:Nat) (i:Nat) (e:Entry),look? (jt tr ts cs n) i=some e→i∈bH (jt tr ts cs n)∧ ∃ e0 t,e=qq tr e0 t
 | [],cs,n,i,e,h=>by simp [jt,look?]at h
 |none::ts,[],n,i,e,h=>by simp [jt,look?]at h
 |some _::ts,[],n,i,e,h=>by simp [jt,look?]at h
 |none::ts,c::cs,n,i,e,h=>lS ts cs n i e h
 |some (e0,t)::ts,c::cs,n,i,e,h=>by
  simp only [jt]at h ⊢
  cases hn:jy c with
  |true=>
   simp only [hn,cond_true]at h ⊢
   simp only [look?]at h
   cases hb:Nat.beq n i with
   |true=>
    have:=q8 hb;subst this
    simp at h;subst h
    exact⟨by simp [bH],e0,t,rfl⟩
   |false=>
    simp [hb]at h
    obtain⟨h1,h2⟩:=lS ts cs (n + 1) i e h
    exact⟨by simp only [bH,w9,List.mem_cons]at h1 ⊢;exact .inr h1,h2⟩
  |false=>
   simp only [hn,cond_false]at h ⊢
   exact lS ts cs n i e h
theorem px: ∀ (ts:List (Option (TypeId×CTy))) (cs:List Cell) (n:Nat) (i:Nat),i∈bH (jt tr ts cs n)→n≤i
 | [],cs,n,i,h=>by simp [jt,bH]at h
 |none::ts,[],n,i,h=>by simp [jt,bH]at h
 |some _::ts,[],n,i,h=>by simp [jt,bH]at h
 |none::ts,c::cs,n,i,h=>px ts cs n i h
 |some (e0,t)::ts,c::cs,n,i,h=>by
  simp only [jt]at h
  cases hn:jy c with
  |true=>
   simp only [hn,cond_true,bH,w9,List.mem_cons]at h
   rcases h with rfl | h
   ·exact Nat.le_refl _
   ·have:=px ts cs (n + 1) i h;omega
  |false=>simp only [hn,cond_false]at h;exact px ts cs n i h
theorem nz{U:Nat→Bool}: ∀ (ts:List (Option (TypeId×CTy))) (cs:List Cell) (n:Nat),(∀ i∈bH (jt tr ts cs n),U i=true)→(∀ c∈cs,c.inU U)→ ∀ c∈ll ts cs n,c.inU U
 | [],cs,n,_,hc=>by simp only [ll];exact hc
 |none::ts,[],n,_,hc=>by simp [ll]
 |some _::ts,[],n,_,hc=>by simp [ll]
 |none::ts,c::cs,n,hk,hc=>by
  simp only [ll]
  intro x hx
  rcases List.mem_cons.1 hx with rfl | hx
  ·exact hc _ (by simp)
  ·exact nz ts cs n hk (fun c hm=>hc c (by simp [hm])) x hx
 |some (e,t)::ts,c::cs,n,hk,hc=>by
  simp only [ll]
  simp only [jt]at hk
  cases hn:jy c with
  |true=>
   simp only [hn,cond_true]at hk ⊢
   intro x hx
   rcases List.mem_cons.1 hx with rfl | hx
   ·exact hk n (by simp [bH])
   ·exact nz ts cs (n + 1) (fun i hi=>hk i (by simp [bH]at hi ⊢;exact .inr hi)) (fun c hm=>hc c (by simp [hm])) x hx
  |false=>
   simp only [hn,cond_false]at hk ⊢
   intro x hx
   rcases List.mem_cons.1 hx with rfl | hx
   ·exact hc _ (by simp)
   ·exact nz ts cs n hk (fun c hm=>hc c (by simp [hm])) x hx
theorem sD{U:Nat→Bool}{T:TypeId}{n:Nat}{v:V1}(hv:v.inU U)(hk: ∀ i∈bH (ek P tr T n v).es,U i=true):(ek P tr T n v).v.inU U:=by
 unfold ek at hk ⊢
 cases hb:v.cs.any jy with
 |false=>exact hv
 |true=>simp only [hb]at hk ⊢;exact nz _ _ _ hk hv
theorem wg{T:TypeId}{n:Nat}{v:V1}{i:Nat}(h:i∈bH (ek P tr T n v).es):n≤i:=by
 unfold ek at h
 cases hb:v.cs.any jy with
 |false=>simp [hb,bH]at h
 |true=>simp only [hb]at h;exact px _ _ _ _ h
theorem jX{ent:Nat→Option Entry}{used:Nat→Bool}(h:Hp B ρ ent used w){T:TypeId}{n:Nat}{v:V1}(hv:v.inU used)(io: ∀ i∈bH (ek P tr T n v).es,used i=false):
  ∃ ρ':Nm,Ext B used ρ ρ'∧ρ'.mem=ρ.mem∧Hp B ρ' (ae ent (ek P tr T n v).es) (ag used (bH (ek P tr T n v).es)) w∧(ek P tr T n v).v.conc ρ'=v.conc ρ∧
   ((ek P tr T n v).v.agg=v.agg)∧(ek P tr T n v).v.cs.map (Cell.conc ρ')=v.cs.map (Cell.conc ρ):=by
 obtain⟨g,cs⟩:=v
 unfold ek at io ⊢
 cases hb:cs.any jy with
 |false=>exact⟨ρ,Ext.refl _ _ _,rfl,h,rfl,rfl,rfl⟩
 |true=>
  simp only [hb]at io ⊢
  let L:=bH (jt tr (gp P 12 T) cs n)
  have fc: ∀ id,used id=true→ex ρ L id=ρ id:=fun id aR=>by
   have:memN L id=false:=by
    cases hm:memN L id with
    |false=>rfl
    |true=>rw [io id (memN_mem.1 hm)]at aR;cases aR
   simp [Nm.of,ex,this]
  have kH:=lR (ρ:=ρ) (L:=L) (gp P 12 T) cs n (fun i hi=>hi) fun c hc=>Cell.conc_congr fc (hv c hc)
  obtain⟨hx,hp⟩:=h.names (ρ':=ex ρ L) (es:=jt tr (gp P 12 T) cs n) (new:=L) fc rfl (hfp:=fun id aR _=>by
   have:memN L id=false:=by
    cases hm:memN L id with
    |false=>rfl
    |true=>rw [io id (memN_mem.1 hm)]at aR;cases aR
   simp [ex,this]) fun id e he=>by
   obtain⟨h1,e0,t,rfl⟩:=lS _ _ _ _ _ he
   have hm:memN L id=true:=memN_mem.2 h1
   have hv:ex ρ L id= .slice none 0 0:=by simp [Nm.of,ex,hm,eM]
   have hfp:(ex ρ L).fp id= []:=by simp [ex,hm]
   have hr:(Entry.row true e0 t []).holds B (ex ρ L) w id:=by
    simp only [Entry.holds,hv]
    exact⟨[],jF _ _ _,aU.nil _ _,by simp [az]⟩
   have ht:(Entry.tree e0 t [] none).holds B (ex ρ L) w id:=by
    simp only [Entry.holds,hv,hfp]
    exact⟨[],[],jF _ _ _,⟨rfl,fun k hc h=>(by cases h),fun i x l _ hx=>(by simp at hx),fun i j l l' k hl=>(by simp at hl)⟩,rfl,(by simp [az]),(by simp [az])⟩
   refine⟨?_,by simp [ag,hm],?_,?_⟩
   ·unfold qq;split
    ·exact ht
    ·exact hr
   ·unfold qq;split <;> trivial
   ·unfold qq;split <;> simp only [Entry.ob,hv,az,hfp,List.append_nil]
  refine⟨ex ρ L,hx,rfl,hp,?_,trivial,kH⟩
  simp only [V1.conc]
  cases g with
  |true=>simp only [kH]
  |false=>
   match cs,kH with
   | [],_=>cases gp P 12 T with
    |nil=>rfl
    |cons t _=>cases t <;> rfl
   | [c],kH=>
    have hl: ∃ c',ll (gp P 12 T) [c] n= [c']:=by
     match gp P 12 T with
     | []=>exact⟨c,rfl⟩
     |none::ts=>exact⟨c,by cases ts with | nil=>rfl | cons t _=>cases t <;> rfl⟩
     |some t::ts=>
      simp only [ll]
      cases jy c with
      |true=>exact⟨.ref n,by cases ts with | nil=>rfl | cons t _=>cases t <;> rfl⟩
      |false=>exact⟨c,by cases ts with | nil=>rfl | cons t _=>cases t <;> rfl⟩
    obtain⟨c',hc'⟩:=hl
    rw [hc']at kH ⊢
    simpa using kH
   |c1::c2::cr,kH=>
    have:=congrArg List.length kH
    simp only [List.length_map,List.length_cons]at this
    match hq:ll (gp P 12 T) (c1::c2::cr) n,this with
    |_::_::_,_=>rfl
end
end Go.SX
namespace Go.SX
open Go.RowKit
section
variable{P:Program}{tr:Bool}{s:St}{look:Nat→Option SS}{ent:Nat→Option Entry}{A:List (Nat×Bool)}{nid:Nat}{o:Oper}{r:Raw}{B:Base}{ρ:Nm}{a:Act}{w:World}{K:Act→World→Prop}{Q:Exit→Act→World→Prop}
theorem oV(c:Ctx B ρ s a w look ent A){T:TypeId}{x:Operand}(ho:o.op= .move x∨o.op= .assign x)(h:uB P tr look A nid T x=some r)(aS: ∀ i∈r.new,s.used i=false)(hC:be B s ρ r o a K):o.wp P a w K Q:=by
 have hr: ∀ w,(execOp a.eval o).run P w= .ok (.value (a.eval x)) w:=fun w=>by
  obtain⟨dst,op,ty,pos,after,guard⟩:=o
  rcases ho with ho | ho <;> (simp only at ho;subst ho;rfl)
 unfold uB at h
 split at h
 ·rename_i v hv
  cases h
  obtain⟨h1,h2⟩:=c.ev hv
  obtain⟨ρ',hx,_,hp,kH,_⟩:=jX (P:=P) (tr:=tr) (T:=T) (n:=nid) (v:=v) c.hp h2 aS
  refine aa (hr w) (hC ρ' _ w hx ?_ hp)
  rw [h1];exact kH.symm
 ·rename_i v hv
  cases h
  obtain⟨h1,h2⟩:=c.ev hv
  refine aa (hr w) ?_
  rw [h1]
  exact be.same rfl hC c.hp
 ·cases h
theorem sU(c:Ctx B ρ s a w look ent A){cc x y:Operand}(ho:o.op= .pick cc x y)(h:vO look A cc x y=some r)(hC:be B s ρ r o a K):o.wp P a w K Q:=by
 obtain⟨dst,op,ty,pos,after,guard⟩:=o
 simp only at ho;subst ho
 unfold vO at h
 split at h
 ·rename_i jc cb hc
  split at h
  ·rename_i vx vy hx hy
   cases hm:ew cb vx vy with
   |none=>simp [hm]at h
   |some v=>
    simp [hm]at h;subst h
    have hcv:a.eval (.tmp jc)= .bool cb:=(c.evC hc).1
    have hyl:yl a.tmps jc=some cb:=by
     simp only [Act.eval,Array.getD_eq_getD_getElem?]at hcv
     unfold yl
     cases hq:a.tmps[jc]? with
     |none=>rw [hq]at hcv;simp [undef]at hcv
     |some u=>rw [hq]at hcv;simp at hcv;subst hcv;rfl
    refine aa (u:=cond cb (a.eval x) (a.eval y)) (w':=w) ?_ ?_
    ·cases cb <;> simp [execOp,hcv,asBool]
    ·have:cond cb (a.eval x) (a.eval y)=v.conc ρ:=by
      rw [fB ρ hm]
      have hA': ∀ q∈(jc,cb)::A,yl a.tmps q.1=some q.2:=fun q hq=>by
       rcases List.mem_cons.1 hq with rfl | hq
       ·exact hyl
       ·exact c.hA q hq
      cases cb with
      |true=>simpa using pt c.hM c.hL hA' hx
      |false=>simpa using pt c.hM c.hL hA' hy
     rw [this]
     exact be.same rfl hC c.hp
  ·cases h
 ·cases h
theorem im(ρ:Nm)(l:List Value):(l.map Cell.val).map (Cell.conc ρ)=l:=by
 rw [List.map_map,show (Cell.conc ρ ∘ Cell.val)=id from rfl,List.map_id]
theorem pZ{l:List (Nat×Entry)}{i:Nat}{e:Entry}(h:look? l i=some e):i∈bH l:=by
 induction l with
 |nil=>simp [look?]at h
 |cons p l ih=>
  simp only [look?]at h
  simp only [bH,w9,List.mem_cons]
  cases hb:Nat.beq p.1 i with
  |true=>exact .inl (q8 hb).symm
  |false=>simp [hb]at h;exact .inr (ih h)
theorem ct{used:Nat→Bool}{l:List Nat}{i:Nat}(h:i∈l):ag used l i=true:=by simp [ag,memN_mem.2 h]
theorem ul{used:Nat→Bool}{l:List Nat}{i:Nat}(h:i∉l)(hu:used i=false):ag used l i=false:=by
 have:memN l i=false:=by
  cases hm:memN l i with
  |false=>rfl
  |true=>exact(h (memN_mem.1 hm)).elim
 simp [ag,this,hu]
theorem ny(c:Ctx B ρ s a w look ent A){T:TypeId}{cs:List Cell}(fX: ∀ x∈cs,x.inU s.used)
  (hr:(execOp a.eval o).run P w= .ok (.value (.pointer (some ⟨w.heap.size,0,none⟩))) (w.alloc (.cells (cs.map (Cell.conc ρ)).toArray T)))
  (aS: ∀ i∈nid::bH (ek P tr T (nid + 1) ⟨true,cs⟩).es,s.used i=false)
  (hC:be B s ρ ⟨one (.ptr nid 0),(nid,.box T (ek P tr T (nid + 1) ⟨true,cs⟩).v.cs)::(ek P tr T (nid + 1) ⟨true,cs⟩).es,nid::bH (ek P tr T (nid + 1) ⟨true,cs⟩).es,[]⟩ o a K):o.wp P a w K Q:=by
 obtain⟨ρ1,hx1,hm1,hp1,_,_,kH⟩:=jX (P:=P) (tr:=tr) (T:=T) (n:=nid + 1) (v:=⟨true,cs⟩) c.hp fX fun i hi=>aS i (by simp [hi])
 have io:ag s.used (bH (ek P tr T (nid + 1) ⟨true,cs⟩).es) nid=false:=ul (fun hi=>by have:=wg hi;omega) (aS nid (by simp))
 have ei: ∀ x∈(ek P tr T (nid + 1) ⟨true,cs⟩).v.cs,x.inU (ag s.used (bH (ek P tr T (nid + 1) ⟨true,cs⟩).es)):=
  sD (v:=⟨true,cs⟩) (fun x hx=>Cell.inU_mono aD (fX x hx)) fun i hi=>ct hi
 obtain⟨hx2,hp2⟩:=hp1.alloc io T (ek P tr T (nid + 1) ⟨true,cs⟩).v.cs ei
 rw [kH,cZ,qT]at hp2
 refine aa hr (hC _ _ _ (hx1.trans hx2 aD) ?_ hp2)
 simp only [one,SV.conc,V1.conc,Cell.conc]
 rw [ax _ _ rfl];rfl
theorem rE(c:Ctx B ρ s a w look ent A){T:TypeId}(ho:o.op= .alloc T)(h:tq P tr nid T=some r)(aS: ∀ i∈r.new,s.used i=false)(hC:be B s ρ r o a K):o.wp P a w K Q:=by
 obtain⟨dst,op,ty,pos,after,guard⟩:=o
 simp only at ho;subst ho
 unfold tq at h
 split at h
 ·rename_i i hi
  split at h
  ·rename_i z hz
   cases h
   refine ny c (fun x hx=> ?_) ?_ aS hC
   ·obtain⟨v,_,rfl⟩:=List.mem_map.1 hx;trivial
   ·rw [im]
    simp [execOp,Instr.alloc,zeroValue,typeInfo,hi,hz,newVar,newRow,newObj];rfl
  ·cases h
 ·cases h
theorem tx(c:Ctx B ρ s a w look ent A){T:TypeId}{x:Operand}(ho:o.op= .box T x)(h:wN P tr look A nid T x=some r)(aS: ∀ i∈r.new,s.used i=false)(hC:be B s ρ r o a K):o.wp P a w K Q:=by
 obtain⟨dst,op,ty,pos,after,guard⟩:=o
 simp only at ho;subst ho
 unfold wN at h
 split at h
 ·rename_i v hv
  split at h
  ·rename_i cs fX
   cases h
   obtain⟨h1,h2⟩:=c.ev1 hv
   refine ny c (V1.cells?_inU h2 fX) ?_ aS hC
   simp [execOp,Instr.box,newVar,newRow,newObj,h1,V1.cells?_conc ρ fX];rfl
  ·cases h
 ·cases h
theorem cW(b off j:Nat):(⟨b,off,none⟩:Addr).add j=⟨b,off + j,none⟩:=by
 unfold Addr.add;split <;> simp_all
theorem lT{T:TypeId}{d:TypeDesc}(h:P.underlying T=some d)(w:World):(isAgg T).run P w= .ok (vG d) w:=by
 unfold isAgg
 rw [Sem.run_bind,run_underlying h w]
 cases d <;> rfl
theorem lU{T:TypeId}{off base b:Nat}{cs:List Cell}{v:V1}(hv:li P T off cs=some v)(hcell: ∀ j u,(cs.map (Cell.conc ρ))[j]? =some u→w.cell? ⟨b,base + j,none⟩=some u):
  (loadVar T ⟨b,base + off,none⟩).run P w= .ok (v.conc ρ) w:=by
 unfold li at hv
 split at hv
 ·rename_i d i hd hi
  split at hv
  ·rename_i dH
   cases hb:Nat.ble (off + i.size) cs.length with
   |false=>simp [hb]at hv
   |true=>
    simp [hb]at hv;subst hv
    have eP:=zJ hb
    have bj:(((cs.drop off).take i.size).map (Cell.conc ρ)).length=i.size:=by simp;omega
    have hl:(loadCells ⟨b,base + off,none⟩ (((cs.drop off).take i.size).map (Cell.conc ρ)).length).run P w= .ok (((cs.drop off).take i.size).map (Cell.conc ρ)).toArray w:=
     run_loadCells_list (P:=P) w _ _ fun j u hj=>by
      rw [cW,Nat.add_assoc]
      refine hcell _ _ ?_
      rw [← hj]
      simp only [List.getElem?_map,List.getElem?_take,List.getElem?_drop]
      split
      ·rfl
      ·rename_i bI
       have:=(zQ.1 hj).1
       rw [bj]at this;omega
    rw [bj]at hl
    simp [loadVar,Sem.run_bind,lT hd,dH,sizeOf,typeInfo,hi,hl,V1.conc]
  ·rename_i dH
   split at hv
   ·rename_i c hc
    cases hv
    have:w.cell? ⟨b,base + off,none⟩=some (c.conc ρ):=hcell _ _ (by simp [hc])
    simp [loadVar,Sem.run_bind,lT hd,dH,V1.conc,this]
   ·cases hv
 ·cases hv
theorem gE{T U:TypeId}{off b:Nat}{cur:Array Value}{n:Nat}{ns:List Cell}{v:Value}{off0:Nat}(aA:dw P T off0 n ns=true)(eP:off0 + ns.length≤n→off + ns.length≤cur.size)(hv:v.cells=(ns.map (Cell.conc ρ)).toArray)(hh:w.heap[b]? =some (.cells cur U (0,0))):
  (storeVar T ⟨b,off,none⟩ v).run P w= .ok () (w.setRow b (cur.toList.take off++ns.map (Cell.conc ρ)++cur.toList.drop (off + ns.length)).toArray):=by
 unfold dw at aA
 split at aA
 ·rename_i i hi
  simp only [w3]at aA
  obtain⟨⟨h1,h2⟩,h3⟩:=aA
  have h1:=q8 h1
  have h2:=eP (zJ h2)
  have hst:=run_storeCells_at P b off U (ns.map (Cell.conc ρ)) 0 cur w hh (by simp;omega) (fun u hu=>by
   obtain⟨c,hc,rfl⟩:=List.mem_map.1 hu
   have:=List.all_eq_true.1 h3 c hc
   cases c with
   |val v=>exact this
   |ref id=>exact nG _
   |vw id z k=>exact nG _
   |_=>rfl)
  have eb:v.cells.size=i.size:=by rw [hv];simp [h1]
  have hvl:v.cells.toList=ns.map (Cell.conc ρ):=by rw [hv]
  simp only [storeVar,sizeOf,typeInfo,program,Sem.run_bind,Sem.run,hi,Result.andThen_ok,Sem.run_pure,eb,ne_eq,not_true_eq_false,if_false,hvl]
  rw [hst]
  simp
 ·cases aA
end
end Go.SX
namespace Go.SX
open Go.RowKit
section
variable{P:Program}{tr:Bool}{s:St}{look:Nat→Option SS}{ent:Nat→Option Entry}{A:List (Nat×Bool)}{nid:Nat}{o:Oper}{r:Raw}{B:Base}{ρ:Nm}{a:Act}{w:World}{K:Act→World→Prop}{Q:Exit→Act→World→Prop}
theorem cQ{b k:Nat}{arr:Array Value}{T:TypeId}{fz:Nat×Nat}(h:w.heap[b]? =some (.cells arr T fz)):w.cell? ⟨b,k,none⟩=arr[k]? :=by
 simp [World.cell?,h]
theorem rr{own:Bool}{id:Nat}{e:TypeId}{t:CTy}{xs:List (E t)}(h:(Entry.row own e t xs).holds B ρ w id)(hf: ∀ b o,ρ.mem b=some o→w.heap[b]? =some o){i:Nat}{x:E t}(hx:xs[i]? =some x):
  ∃ chunk,Rep ρ.mem t chunk x∧ ∀ j u,chunk[j]? =some u→w.cell? ⟨gu (ρ id),lp (ρ id) + i * t.size + j,none⟩=some u:=by
 cases own with
 |false=>
  rcases h with⟨_,hn⟩ | ⟨b,off,cap,arr,T,fz,h1,h2,h3,h4,h5⟩
  ·rw [hn]at hx;simp at hx
  ·refine⟨_,h5 i x hx,fun j u hj=> ?_⟩
   rw [h1]
   simp only [gu,lp]
   rw [cQ (hf _ _ h4)]
   simp only [List.getElem?_take,List.getElem?_drop]at hj
   split at hj
   ·simpa using hj
   ·cases hj
 |true=>
  obtain⟨cs,h1,h2,_⟩:=h
  refine⟨_,h2.2 i x hx,fun j u hj=> ?_⟩
  have bI:=bO (z:=t.size) (zQ.1 hx).1
  rcases h1.2 with⟨_,hn⟩ | ⟨g,cap,cur,hv,_,hg,eP,le,eb,lg⟩
  ·have:=(zQ.1 hx).1;omega
  ·rw [hv]
   simp only [gu,lp,Nat.zero_add]
   rw [cQ hg]
   rw [← lg]at hj
   simp only [List.getElem?_take,List.getElem?_drop]at hj
   split at hj
   ·split at hj
    ·simpa using hj
    ·cases hj
   ·cases hj
theorem jZ{α:Type}{xs:List α}{i:Nat}{d:α}(h:i < xs.length):xs[i]? =some (xs[i]?.getD d):=by
 rw [List.getElem?_eq_getElem h];rfl
theorem gh{id z i off:Nat}:(Cell.el id z i off).conc ρ= .pointer (some ⟨gu (ρ id),lp (ρ id) + (i * z + off),none⟩):=rfl
theorem nB{id off:Nat}:(Cell.ptr id off).conc ρ= .pointer (some ⟨gu (ρ id),off,none⟩):=rfl
theorem uV{e:TypeId}{z n:Nat}{v:Value}{cs:List Value}(h:dQ w e z v n cs){k:Nat}(hk:k < n):
  ∃ g cap,v= .slice (some ⟨g,0,none⟩) n cap∧ ∀ j u,((cs.drop (k * z)).take z)[j]? =some u→w.cell? ⟨g,k * z + j,none⟩=some u:=by
 rcases h.2 with⟨_,hn⟩ | ⟨g,cap,cur,hv,h0,hg,eP,le,eb,lg⟩
 ·omega
 ·refine⟨g,cap,hv,fun j u hj=> ?_⟩
  rw [cQ hg,← Array.getElem?_toList]
  rw [List.getElem?_take]at hj
  split at hj
  ·rename_i hjz
   rw [List.getElem?_drop,← lg,List.getElem?_take]at hj
   split at hj
   ·exact hj
   ·cases hj
  ·cases hj
theorem sO(c:Ctx B ρ s a w look ent A){T:TypeId}{x:Operand}(ho:o.op= .load T x)(h:vJ P look ent A nid T x=some r)(aS: ∀ i∈r.new,s.used i=false)(ba: ∀ b∈r.nd,b=true)(hC:be B s ρ r o a K):o.wp P a w K Q:=by
 obtain⟨dst,op,ty,pos,after,guard⟩:=o
 simp only at ho;subst ho
 unfold vJ at h
 split at h
 ·rename_i id off hx
  split at h
  ·rename_i U cs he
   split at h
   ·rename_i v hv
    cases h
    obtain⟨⟨b,h1,h2,_⟩,_,_⟩:=c.hp.he _ _ (c.hE _ _ he)
    have hr:=lU (P:=P) (ρ:=ρ) (base:=0) (b:=b) (w:=w) hv fun j u hj=>by
     rw [Nat.zero_add,cQ h2];simpa using hj
    rw [Nat.zero_add]at hr
    refine aa (u:=v.conc ρ) (w':=w) ?_ (be.same (v:= .one v) rfl hC c.hp)
    have:=(c.evC hx).1
    rw [nB,h1]at this
    simp only [gu]at this
    simp [execOp,Instr.loadAt,this,Instr.sureAddr,hr]
   ·cases h
  ·cases h
 ·rename_i id z i off hx
  split at h
  ·rename_i own e t xs he
   cases hz:Nat.beq z t.size with
   |false=>simp [hz]at h
   |true=>
    have:=q8 hz;subst this
    simp only [hz,cond_true]at h
    split at h
    ·rename_i v hv
     cases h
     have hi:i < xs.length:=by simpa using ba (decide (i < xs.length)) (by simp)
     obtain⟨h1,aR,_⟩:=c.hp.he _ _ (c.hE _ _ he)
     obtain⟨chunk,hc1,hc2⟩:=rr h1 c.hp.hf.dat (jZ (d:=de t) hi)
     obtain⟨ρ',m',f',k',e',r'⟩:=kj t chunk _ nid ρ hc1
     have fc: ∀ id,s.used id=true→ρ' id=ρ id:=fun id aR=>k' id (by
      have: ¬ (nid≤id∧id < nid + t.nsl):=fun hh=>by
       have:=aS id (memN_mem.1 (bk.2 hh))
       rw [this]at aR;cases aR
      omega)
     obtain⟨hX,hp⟩:=c.hp.names (es:=eK t (xs[i]?.getD (de t)) nid) (new:=ac nid t.nsl) fc m' (hfp:=fun id _ _=>by rw [f']) fun id e he=>by
      obtain⟨h0,h3,h4⟩:=r' id e he
      rcases h0 with rfl | ⟨e0,t0,ys,rfl,hr⟩
      ·exact⟨trivial,ct (memN_mem.1 (bk.2 ⟨h3,h4⟩)),trivial,rfl⟩
      ·exact⟨by simp only [Entry.holds];rw [m'];exact hr,ct (memN_mem.1 (bk.2 ⟨h3,h4⟩)),trivial,rfl⟩
     have hr:=lU (P:=P) (ρ:=ρ') (base:=lp (ρ id) + i * t.size) (b:=gu (ρ id)) (w:=w) hv fun j u hj=>by
      rw [← e']at hj;exact hc2 j u hj
     refine aa (u:=v.conc ρ') (w':=w) ?_ (hC ρ' _ w hX rfl hp)
     have:=(c.evC hx).1
     rw [gh,← Nat.add_assoc]at this
     simp [execOp,Instr.loadAt,this,Instr.sureAddr,hr]
    ·cases h
  ·rename_i e t xs he
   cases hz:Nat.beq z t.size with
   |false=>simp [hz]at h
   |true=>
    have:=q8 hz;subst this
    simp only [hz,cond_true]at h
    split at h
    ·rename_i v hv
     obtain⟨⟨cs,Ls,q1,q2,_⟩,aR,_⟩:=c.hp.he _ _ (c.hE _ _ he)
     have bB:=(c.evC hx).1
     rw [gh,← Nat.add_assoc]at bB
     have main:i < xs.length→ ∀ ρ':Nm,(cs.drop (i * t.size)).take t.size=(bM t (xs[i]?.getD (de t)) nid).map (Cell.conc ρ')→(execOp a.eval ⟨dst,.load T x,ty,pos,after,guard⟩).run P w= .ok (.value (v.conc ρ')) w:=by
      intro hi ρ' ux
      obtain⟨g,cap,hg,hc2⟩:=uV q1 hi
      have hr:=lU (P:=P) (ρ:=ρ') (base:=lp (ρ id) + i * t.size) (b:=gu (ρ id)) (w:=w) hv fun j u hj=>by
       rw [← ux]at hj
       rw [hg];simp only [lp,gu,Nat.zero_add]
       exact hc2 j u hj
      simp [execOp,Instr.loadAt,bB,Instr.sureAddr,hr]
     split at h
     ·rename_i vs rf
      cases h
      have hi:i < xs.length:=by simpa using ba (decide (i < xs.length)) (by simp)
      obtain⟨l,hl⟩: ∃ l,Ls[i]? =some l:=⟨_,List.getElem?_eq_getElem (by rw [q2.1];exact hi)⟩
      have hd:=q2.2.2.1 i _ l (fun _ _ h=>by cases h) (jZ (d:=de t) hi) hl
      obtain⟨ρ1,_,_,_,e1,_⟩:=jh t _ _ l nid ρ hd
      have hv1:v.conc ρ1=v.conc ρ:=by
       have:=ic ρ rf
       have h2:=ic ρ1 rf
       simp only [V1.conc]
       obtain⟨g,vcs⟩:=v
       cases g with
       |true=>simp only [this,h2]
       |false=>
        match vcs,this,h2 with
        | [],_,_=>rfl
        | [c0],h3,h4=>simp only [w9,List.map_nil]at h3 h4;rw [← h3]at h4;simpa using h4
        |_::_::_,_,_=>rfl
      refine aa (u:=v.conc ρ) (w':=w) ?_ (be.same (v:= .one v) rfl hC c.hp)
      rw [← hv1]
      exact main hi ρ1 e1
     ·cases h
      have hi:i < xs.length:=by simpa using ba (decide (i < xs.length)) (by simp)
      obtain⟨ρ',hX,hm,hp⟩:=c.hp.treeOpen (c.hE _ _ he) (jZ (d:=de t) hi) (nid:=nid) (fun j hj=>aS j hj)
      refine aa (u:=v.conc ρ') (w':=w) ?_ (hC ρ' _ w hX rfl hp)
      obtain⟨⟨cs',Ls',p1,p2,_⟩,_,_⟩:=hp.he id (.tree e t xs (some (i,bM t (xs[i]?.getD (de t)) nid))) (by simp [ae,look?])
      have to:ρ' id=ρ id:=hX.nm id aR
      rw [to]at p1
      obtain⟨_,_,p3⟩:=p2.2.1 i _ rfl
      have fX:cs'=cs:=ot p1 q1
      subst fX
      exact main hi ρ' p3
    ·cases h
  ·cases h
 ·cases h
theorem nZ(c:Ctx B ρ s a w look ent A){T:TypeId}{x:Operand}{f:Nat}(ho:o.op= .fieldAddr T x f)(h:mK P look A T x f=some r)(hC:be B s ρ r o a K):o.wp P a w K Q:=by
 obtain⟨dst,op,ty,pos,after,guard⟩:=o
 simp only at ho;subst ho
 have eI: ∀ {d b off:Nat},pR P T f=some d→a.eval x= .pointer (some ⟨b,off,none⟩)→ ∀ w,(execOp a.eval ⟨dst,.fieldAddr T x f,ty,pos,after,guard⟩).run P w= .ok (.value (.pointer (some ⟨b,off + d,none⟩))) w:=by
  intro d b off hd hx w
  unfold pR at hd
  split at hd
  ·rename_i fs hfs
   split at hd
   ·rename_i fd hfd
    split at hd
    ·rename_i i hi
     cases hz:Nat.beq i.size 0 with
     |true=>simp [hz]at hd
     |false=>
      simp [hz]at hd;subst hd
      have ij:i.size≠0:=fun h0=>by rw [h0]at hz;cases hz
      simp [execOp,Instr.fieldAt,run_underlying hfs,hfd,hx,Instr.sureAddr,fieldPlace,sizeOf,typeInfo,hi,ij,cW]
    ·cases hd
   ·cases hd
  ·cases hd
 unfold mK at h
 split at h
 ·rename_i id off d hx hd
  cases h
  have:=(c.evC hx).1
  refine aa (eI hd this w) (be.same (v:=one (.ptr id (off + d))) rfl hC c.hp)
 ·rename_i id z i off d hx hd
  cases h
  have:=(c.evC hx).1
  refine aa (eI hd this w) ?_
  have:=be.same (v:=one (.el id z i (off + d))) rfl hC c.hp
  simp only [one,SV.conc,V1.conc,gh]at this
  rwa [show i * z + (off + d)=i * z + off + d from (Nat.add_assoc _ _ _).symm,← Nat.add_assoc]at this
 ·cases h
theorem qD{T:TypeId}{off:Nat}{cs:List Cell}{v:V1}(hv:li P T off cs=some v):(part T (cs.map (Cell.conc ρ)).toArray off).run P w= .ok (v.conc ρ) w:=by
 unfold li at hv
 split at hv
 ·rename_i d i hd hi
  split at hv
  ·rename_i dH
   cases hb:Nat.ble (off + i.size) cs.length with
   |false=>simp [hb]at hv
   |true=>
    simp [hb]at hv;subst hv
    simp [part,Sem.run_bind,lT hd,dH,sizeOf,typeInfo,hi,V1.conc,List.extract_eq_take_drop,List.map_take,List.map_drop]
  ·rename_i dH
   split at hv
   ·rename_i c hc
    cases hv
    simp [part,Sem.run_bind,lT hd,dH,V1.conc,hc]
   ·cases hv
 ·cases hv
theorem rL(c:Ctx B ρ s a w look ent A){T:TypeId}{x:Operand}{f:Nat}(ho:o.op= .field T x f)(h:tI P look A T x f=some r)(hC:be B s ρ r o a K):o.wp P a w K Q:=by
 obtain⟨dst,op,ty,pos,after,guard⟩:=o
 simp only at ho;subst ho
 unfold tI at h
 split at h
 ·rename_i cs fs hx hfs
  split at h
  ·rename_i fd hfd
   split at h
   ·rename_i v hv
    cases h
    have:=(c.ev1 hx).1
    refine aa (u:=v.conc ρ) (w':=w) ?_ (be.same (v:= .one v) rfl hC c.hp)
    have hp:=qD (ρ:=ρ) (w:=w) hv
    simp [execOp,Instr.field,run_underlying hfs,hfd,this,V1.conc,asAgg,hp]
   ·cases h
  ·cases h
 ·cases h
theorem pj(c:Ctx B ρ s a w look ent A){x:Operand}(ho:o.op= .nilCheck x)(h:ol look A x=some r)(hC:be B s ρ r o a K):o.wp P a w K Q:=by
 obtain⟨dst,op,ty,pos,after,guard⟩:=o
 simp only at ho;subst ho
 unfold ol at h
 split at h
 ·cases h
 ·cases h
 ·cases h
 ·rename_i cc hn1 hn2 hn3 hx
  cases h
  have:=(c.evC hx).1
  refine aa (u:=cc.conc ρ) (w':=w) ?_ (be.same (v:=one cc) rfl hC c.hp)
  cases cc with
  |val v=>exact(hn1 v rfl).elim
  |ref id=>exact(hn2 id rfl).elim
  |vw id z k=>exact(hn3 id z k rfl).elim
  |_=>simp [execOp,this,Cell.conc]
 ·cases h
theorem gd{k:IntKind}{i:Int}:(asIntOf (.int k i)).run P w= .ok (k,i) w:=rfl
theorem og(c:Ctx B ρ s a w look ent A){T:TypeId}{x ix:Operand}(ho:o.op= .indexAddr T x ix)(h:mM P look ent A T x ix=some r)(ba: ∀ b∈r.nd,b=true)(hC:be B s ρ r o a K):o.wp P a w K Q:=by
 obtain⟨dst,op,ty,pos,after,guard⟩:=o
 simp only at ho;subst ho
 unfold mM at h
 split at h
 ·rename_i id i hx hi
  split at h
  ·rename_i own e t xs he
   cases aA:cY P T t with
   |false=>simp [aA]at h
   |true=>
    simp [aA]at h;subst h
    unfold cY at aA
    split at aA
    ·rename_i e' hT
     split at aA
     ·rename_i inf cp
      have eb:=q8 aA
      have h0:0≤i:=by simpa using ba (decide (0≤i)) (by simp)
      have h1:i < xs.length:=by simpa using ba (decide (i < xs.length)) (by simp)
      have bB:=(c.evC hx).1
      obtain⟨k,hiv⟩:=c.evI hi
      obtain⟨hh,_,_⟩:=c.hp.he _ _ (c.hE _ _ he)
      have bj: ∃ b off cap,ρ id= .slice (some ⟨b,off,none⟩) xs.length cap:=by
       cases own with
       |false=>
        rcases hh with⟨_,hn⟩ | ⟨b,off,cap,arr,T',fz,h4,_⟩
        ·rw [hn]at h1;simp at h1;omega
        ·exact⟨b,off,cap,h4⟩
       |true=>
        obtain⟨cs,h4,_⟩:=hh
        rcases h4.2 with⟨_,hn⟩ | ⟨g,cap,cur,hv,_⟩
        ·rw [hn]at h1;simp at h1;omega
        ·exact⟨g,0,cap,hv⟩
      obtain⟨b,off,cap,hv⟩:=bj
      have kH:=be.same (v:=one (.el id t.size i.toNat 0)) rfl hC c.hp
      simp only [one,SV.conc,V1.conc,gh,hv,gu,lp,Nat.add_zero]at kH
      refine aa (w':=w) ?_ kH
      simp only [Cell.conc,hv]at bB
      simp [execOp,Instr.indexAt,bB,hiv,run_underlying hT,gd,h0,h1,sizeOf,typeInfo,cp,cW,eb]
     ·cases aA
    ·cases aA
  ·rename_i e t xs he
   cases aA:cY P T t with
   |false=>simp [aA]at h
   |true=>
    simp [aA]at h;subst h
    unfold cY at aA
    split at aA
    ·rename_i e' hT
     split at aA
     ·rename_i inf cp
      have eb:=q8 aA
      have h0:0≤i:=by simpa using ba (decide (0≤i)) (by simp)
      have h1:i < xs.length:=by simpa using ba (decide (i < xs.length)) (by simp)
      have bB:=(c.evC hx).1
      obtain⟨k,hiv⟩:=c.evI hi
      obtain⟨hh,_,_⟩:=c.hp.he _ _ (c.hE _ _ he)
      have bj: ∃ b off cap,ρ id= .slice (some ⟨b,off,none⟩) xs.length cap:=by
       obtain⟨cs,Ls,h4,_⟩:=hh
       rcases h4.2 with⟨_,hn⟩ | ⟨g,cap,cur,hv,_⟩
       ·rw [hn]at h1;simp at h1;omega
       ·exact⟨g,0,cap,hv⟩
      obtain⟨b,off,cap,hv⟩:=bj
      have kH:=be.same (v:=one (.el id t.size i.toNat 0)) rfl hC c.hp
      simp only [one,SV.conc,V1.conc,gh,hv,gu,lp,Nat.add_zero]at kH
      refine aa (w':=w) ?_ kH
      simp only [Cell.conc,hv]at bB
      simp [execOp,Instr.indexAt,bB,hiv,run_underlying hT,gd,h0,h1,sizeOf,typeInfo,cp,cW,eb]
     ·cases aA
    ·cases aA
  ·rename_i e t xs he
   cases aA:cY P T t with
   |false=>simp [aA]at h
   |true=>
    simp [aA]at h;subst h
    unfold cY at aA
    split at aA
    ·rename_i e' hT
     split at aA
     ·rename_i inf cp
      have eb:=q8 aA
      have h0:0≤i:=by simpa using ba (decide (0≤i)) (by simp)
      have h1:i < xs.length:=by simpa using ba (decide (i < xs.length)) (by simp)
      have bB:=(c.evC hx).1
      obtain⟨k,hiv⟩:=c.evI hi
      obtain⟨hh,_,_⟩:=c.hp.he _ _ (c.hE _ _ he)
      have bj: ∃ b off cap,ρ id= .slice (some ⟨b,off,none⟩) xs.length cap:=by
       obtain⟨_,hh,_⟩:=hh
       rcases hh with⟨_,hn⟩ | ⟨b,off,cap,arr,T',fz,h4,_⟩
       ·rw [hn]at h1;simp at h1;omega
       ·exact⟨b,off,cap,h4⟩
      obtain⟨b,off,cap,hv⟩:=bj
      have kH:=be.same (v:=one (.el id t.size i.toNat 0)) rfl hC c.hp
      simp only [one,SV.conc,V1.conc,gh,hv,gu,lp,Nat.add_zero]at kH
      refine aa (w':=w) ?_ kH
      simp only [Cell.conc,hv]at bB
      simp [execOp,Instr.indexAt,bB,hiv,run_underlying hT,gd,h0,h1,sizeOf,typeInfo,cp,cW,eb]
     ·cases aA
    ·cases aA
  ·cases h
 ·rename_i id off i hx hi
  split at h
  ·rename_i n e hT
   split at h
   ·rename_i inf cp
    cases h
    have h0:0≤i:=by simpa using ba (decide (0≤i)) (by simp)
    have h1:i < n:=by simpa using ba (decide (i < n)) (by simp)
    have bB:=(c.evC hx).1
    obtain⟨k,hiv⟩:=c.evI hi
    refine aa (w':=w) ?_ (be.same (v:=one (.ptr id (off + i.toNat * inf.size))) rfl hC c.hp)
    simp only [Cell.conc]at bB
    simp [execOp,Instr.indexAt,bB,hiv,run_underlying hT,gd,h0,h1,sizeOf,typeInfo,cp,cW,Instr.sureAddr,one,SV.conc,V1.conc,Cell.conc]
   ·cases h
  ·cases h
 ·cases h
theorem rT(c:Ctx B ρ s a w look ent A){T:TypeId}{x ix:Operand}(ho:o.op= .index T x ix)(h:tP P look A T x ix=some r)(ba: ∀ b∈r.nd,b=true)(hC:be B s ρ r o a K):o.wp P a w K Q:=by
 obtain⟨dst,op,ty,pos,after,guard⟩:=o
 simp only at ho;subst ho
 unfold tP at h
 split at h
 ·rename_i str i hx hi hT
  cases h
  have h0:0≤i:=by simpa using ba (decide (0≤i)) (by simp)
  have h1:i < str.size:=by simpa using ba (decide (i < str.size)) (by simp)
  have bB:=(c.evC hx).1
  obtain⟨k,hiv⟩:=c.evI hi
  refine aa (w':=w) ?_ (be.same (v:=one (.val (.int .u8 (str[i.toNat]?.getD 0).toNat))) rfl hC c.hp)
  simp only [Cell.conc]at bB
  have bI:i.toNat < str.size:=by omega
  simp [execOp,Instr.index,bB,hiv,run_underlying hT,gd,h0,bI,one,SV.conc,V1.conc,Cell.conc]
 ·cases h
theorem tT(c:Ctx B ρ s a w look ent A){cl:Call}{x:Operand}(ho:o.op= .call cl)(hb:cl.callee= .builtin .len)(df:cl.args.toList= [x])(h:wX P look ent A cl.argTypes x=some r)(hC:be B s ρ r o a K):o.wp P a w K Q:=by
 obtain⟨dst,op,ty,pos,after,guard⟩:=o
 simp only at ho;subst ho
 unfold wX at h
 split at h
 ·rename_i id hx
  split at h
  ·rename_i own e t xs he
   cases aA:ik P cl.argTypes[0]? with
   |false=>simp [aA]at h
   |true=>
    simp only [aA,cond_true]at h
    cases h
    have bB:=(c.evC hx).1
    obtain⟨hh,_,_⟩:=c.hp.he _ _ (c.hE _ _ he)
    have bj: ∃ b cap,ρ id= .slice b xs.length cap:=by
     cases own with
     |false=>
      rcases hh with⟨h4,hn⟩ | ⟨b,off,cap,arr,T',fz,h4,_⟩
      ·obtain⟨b0,hb0⟩:=ej h4;rw [hn];exact⟨b0,0,hb0⟩
      ·exact⟨_,_,h4⟩
     |true=>
      obtain⟨cs,h4,_⟩:=hh
      rcases h4.2 with⟨hv,hn⟩ | ⟨g,cap,cur,hv,_⟩
      ·obtain⟨b0,hb0⟩:=ej hv;rw [hn];exact⟨b0,0,hb0⟩
      ·exact⟨_,_,hv⟩
    obtain⟨b,cap,hv⟩:=bj
    refine aa (w':=w) ?_ (be.same (v:=one (.val (.int .i64 xs.length))) rfl hC c.hp)
    simp only [Cell.conc,hv]at bB
    have dH:cl.args= #[x]:=by rw [← w7 (xs:=cl.args),df]
    unfold ik at aA
    split at aA
    ·rename_i t0 ht0
     split at aA
     ·rename_i e0 hT
      simp [execOp,resolve,hb,invoke,builtin,dH,Builtin.len_,bB,one,SV.conc,V1.conc,Cell.conc,goInt,ht0,run_underlying hT]
     ·cases aA
    ·cases aA
  ·rename_i e t xs ho he
   cases aA:ik P cl.argTypes[0]? with
   |false=>simp [aA]at h
   |true=>
    simp only [aA,cond_true]at h
    cases h
    have bB:=(c.evC hx).1
    obtain⟨hh,_,_⟩:=c.hp.he _ _ (c.hE _ _ he)
    have bj: ∃ b cap,ρ id= .slice b xs.length cap:=by
     obtain⟨cs,Ls,h4,_⟩:=hh
     rcases h4.2 with⟨hv,hn⟩ | ⟨g,cap,cur,hv,_⟩
     ·obtain⟨b0,hb0⟩:=ej hv;rw [hn];exact⟨b0,0,hb0⟩
     ·exact⟨_,_,hv⟩
    obtain⟨b,cap,hv⟩:=bj
    refine aa (w':=w) ?_ (be.same (v:=one (.val (.int .i64 xs.length))) rfl hC c.hp)
    simp only [Cell.conc,hv]at bB
    have dH:cl.args= #[x]:=by rw [← w7 (xs:=cl.args),df]
    unfold ik at aA
    split at aA
    ·rename_i t0 ht0
     split at aA
     ·rename_i e0 hT
      simp [execOp,resolve,hb,invoke,builtin,dH,Builtin.len_,bB,one,SV.conc,V1.conc,Cell.conc,goInt,ht0,run_underlying hT]
     ·cases aA
    ·cases aA
  ·rename_i e t xs he
   cases aA:ik P cl.argTypes[0]? with
   |false=>simp [aA]at h
   |true=>
    simp only [aA,cond_true]at h
    cases h
    have bB:=(c.evC hx).1
    obtain⟨hh,_,_⟩:=c.hp.he _ _ (c.hE _ _ he)
    have bj: ∃ b cap,ρ id= .slice b xs.length cap:=by
     obtain⟨_,hh,_⟩:=hh
     rcases hh with⟨h4,hn⟩ | ⟨b,off,cap,arr,T',fz,h4,_⟩
     ·obtain⟨b0,hb0⟩:=ej h4;rw [hn];exact⟨b0,0,hb0⟩
     ·exact⟨_,_,h4⟩
    obtain⟨b,cap,hv⟩:=bj
    refine aa (w':=w) ?_ (be.same (v:=one (.val (.int .i64 xs.length))) rfl hC c.hp)
    simp only [Cell.conc,hv]at bB
    have dH:cl.args= #[x]:=by rw [← w7 (xs:=cl.args),df]
    unfold ik at aA
    split at aA
    ·rename_i t0 ht0
     split at aA
     ·rename_i e0 hT
      simp [execOp,resolve,hb,invoke,builtin,dH,Builtin.len_,bB,one,SV.conc,V1.conc,Cell.conc,goInt,ht0,run_underlying hT]
     ·cases aA
    ·cases aA
  ·cases h
 ·cases h
theorem tD(c:Ctx B ρ s a w look ent A){bop:BinOp}{T T':TypeId}{x y:Operand}(ho:o.op= .binOp bop T x y T')(h:wQ look A bop x y=some r)(ba: ∀ b∈r.nd,b=true)(hC:be B s ρ r o a K):o.wp P a w K Q:=by
 obtain⟨dst,op,ty,pos,after,guard⟩:=o
 simp only at ho;subst ho
 unfold wQ at h
 split at h
 ·rename_i k i k' j hx hy
  split at h
  ·rename_i hk
   subst hk
   cases h
   have hz:j≠0:=by simpa using ba (decide (j≠0)) (by simp)
   have bB:=(c.evC hx).1
   have fe:=(c.evC hy).1
   simp only [Cell.conc]at bB fe
   refine aa (w':=w) ?_ (be.same (v:=one (.val (.int k (k.wrap (i.tdiv j))))) rfl hC c.hp)
   simp [execOp,eqGuard,binOp,bB,fe,Op.intDiv,hz,one,SV.conc,V1.conc,Cell.conc]
  ·cases h
 ·rename_i k i k' j hx hy
  split at h
  ·rename_i hk
   subst hk
   cases h
   have hz:j≠0:=by simpa using ba (decide (j≠0)) (by simp)
   have bB:=(c.evC hx).1
   have fe:=(c.evC hy).1
   simp only [Cell.conc]at bB fe
   refine aa (w':=w) ?_ (be.same (v:=one (.val (.int k (i.tmod j)))) rfl hC c.hp)
   simp [execOp,eqGuard,binOp,bB,fe,Op.intDiv,hz,one,SV.conc,V1.conc,Cell.conc]
  ·cases h
 ·rename_i k i k' j hx hy
  cases h
  have hz:0≤j:=by simpa using ba (decide (0≤j)) (by simp)
  have bB:=(c.evC hx).1
  have fe:=(c.evC hy).1
  simp only [Cell.conc]at bB fe
  refine aa (w':=w) ?_ (be.same (v:=one (.val (.int k (k.wrap (i * 2 ^ (min j.toNat k.bits)))))) rfl hC c.hp)
  simp [execOp,eqGuard,binOp,bB,fe,Op.shift,show ¬ j < 0 by omega,one,SV.conc,V1.conc,Cell.conc]
 ·rename_i k i k' j hx hy
  cases h
  have hz:0≤j:=by simpa using ba (decide (0≤j)) (by simp)
  have bB:=(c.evC hx).1
  have fe:=(c.evC hy).1
  simp only [Cell.conc]at bB fe
  refine aa (w':=w) ?_ (be.same (v:=one (.val (.int k (i.fdiv (2 ^ (min j.toNat k.bits)))))) rfl hC c.hp)
  simp [execOp,eqGuard,binOp,bB,fe,Op.shift,show ¬ j < 0 by omega,one,SV.conc,V1.conc,Cell.conc]
 ·cases h
end
end Go.SX
namespace Go.SX
open Go.RowKit
section
variable{P:Program}{tr:Bool}{s:St}{look:Nat→Option SS}{ent:Nat→Option Entry}{A:List (Nat×Bool)}{nid:Nat}{o:Oper}{r:Raw}{B:Base}{ρ:Nm}{a:Act}{w:World}{K:Act→World→Prop}{Q:Exit→Act→World→Prop}
theorem cj(t ty e:TypeId)(i:TypeInfo)(z:Value)(size bytes:Nat)(ht:P.underlying t=some (.slice e))(hi:P.info? e=some i)(hz:i.zero=some z)
  (hsize:i.size=size) (hby:i.bytes=bytes) (hzs:z.cells.size=size) (eb:0 < size)
  (v:Value) (n:Nat) (xs:List Value) (bv:dQ w e size v n xs)
  (a:Addr) (m c:Nat) (news:List Value) (hl:news.length=m * size) (hnews: ∀ j u,news[j]? =some u→w.cell? (a.add j)=some u) (h1: ∀ u∈news,u.oneCell'=true)
  (h63:n + m≤maxLen) (hbytes:(n + m) * bytes≤140737488355328):
  ∃ v' w',(Builtin.append_ #[t,t] ty #[v,.slice (some a) m c]).run P w= .ok v' w'∧dQ w' e size v' (n + m) (xs++news)∧Chg w w' (fun k=>k∈az v)∧
   (∀ b∈az v',w.heap.size≤b∨b∈az v):=by
 rcases uE bv with⟨hz0,rfl,rfl⟩ | ⟨bv,g0,cap0,hv0,hc0⟩
 ·by_cases hm:m=0
  ·subst hm
   have hn:news= []:=List.length_eq_zero_iff.1 (by rw [hl,Nat.zero_mul])
   subst hn
   rcases hz0 with rfl | ⟨b,rfl⟩
   ·obtain⟨v',w',hr,h2,h3,h4⟩:=run_append_own (P:=P) w 0 t ty e i z size bytes ht hi hz hsize hby hzs eb (.slice none 0 0) 0 [] (World.ownsRow_nil _ _ _ _) a 0 c [] hl hnews h1 h63 hbytes (Nat.zero_le _)
    refine⟨v',w',hr,gO h2,⟨h3.os,h3.tape,h3.output,h3.size,fun k hk _=>h3.block k hk (by simp [Value.ownBlock])⟩,fun b hb=> ?_⟩
    rw [h4.2 ⟨rfl,rfl⟩]at hb;cases hb
   ·refine⟨_,w,?_,by simpa using bv,Chg.refl _ _,fun b hb=> .inr hb⟩
    have hfc:=run_firstCells_some (P:=P) w i.size 0 a 0 c [] (by simp) hnews
    simp [Builtin.append_,run_underlying ht,sizeOf,typeInfo,hi,Builtin.lenOf,hfc,storeCells]
  ·rcases hz0 with rfl | ⟨b,rfl⟩
   ·obtain⟨v',w',hr,h2,h3,_⟩:=run_append_own (P:=P) w w.heap.size t ty e i z size bytes ht hi hz hsize hby hzs eb (.slice none 0 0) 0 [] (World.ownsRow_nil _ _ _ _) a m c news hl hnews h1 h63 hbytes (Nat.le_refl _)
    refine⟨v',w',hr,gO h2,⟨h3.os,h3.tape,h3.output,h3.size,fun k hk _=>h3.block k hk (by simp [Value.ownBlock])⟩,fun b' hb'=> ?_⟩
    rcases h2.2 with⟨rfl,_⟩ | ⟨g,cap,cur,rfl,hg,_⟩
    ·cases hb'
    ·have:=gR hb'
     subst this;exact .inl hg
   ·obtain⟨v',w',hr,h2,h3⟩:=run_append_arg_grows (P:=P) w t ty e i z size bytes ht hi hz hsize hby hzs eb b 0 0 [] (by simp) (fun j u hj=>by simp at hj) a m c news hl hnews (by omega) h63 hbytes
    refine⟨v',w',hr,gO h2,⟨h3.os,h3.tape,h3.output,h3.size,fun k hk _=>h3.block k hk (by simp)⟩,fun b' hb'=> ?_⟩
    rcases h2.2 with⟨rfl,_⟩ | ⟨g,cap,cur,rfl,hg,_⟩
    ·cases hb'
    ·have:=gR hb'
     subst this;exact .inl hg
 obtain⟨v',w',hr,h2,h3,h4⟩:=run_append_own (P:=P) w 0 t ty e i z size bytes ht hi hz hsize hby hzs eb v n xs bv a m c news hl hnews h1 h63 hbytes (Nat.zero_le _)
 refine⟨v',w',hr,gO h2,Chg.own h3 (fun g hg=>by rw [hv0]at hg ⊢;simp only [Value.ownBlock,q9]at hg;rw [bC hc0,← hg];simp),?_⟩
 subst hsize;subst hby
 have hsmall:n + m≤9223372036854775807:=by simp only [maxLen]at h63;omega
 rcases bv.2 with⟨rfl,rfl⟩ | ⟨g,cap,cur,rfl,hbg,hg,hnc,le,fX,htake⟩
 ·cases hv0
 ·by_cases hroom:n + m≤cap
  ·obtain⟨_,hr',_⟩:=run_append_fits (P:=P) w 0 t ty e i i.size ht hi rfl g n cap xs bv a m c news hl hnews h1 hroom
   rw [hr']at hr
   cases hr
   intro b hb;exact .inr hb
  ·have holds: ∀ j u,xs[j]? =some u→w.cell? ((⟨g,0,none⟩:Addr).add j)=some u:=bv.cells (g:=g) rfl
   have hr':=run_append_grow (P:=P) w t ty e i z ht hi hz ⟨g,0,none⟩ n cap xs bv.1 holds a m c news hl hnews (by omega) (by omega) (growslice_fits (by omega) hbytes)
   rw [hr']at hr
   cases hr
   intro b hb
   left
   simp only [az]at hb
   revert hb
   generalize Nat.beq _ 0=q
   cases q with
   |true=>intro hb;cases hb
   |false=>intro hb;simp only [cond_false,zK]at hb;subst hb;exact Nat.le_refl _
theorem ef(t ty e:TypeId)(i:TypeInfo)(size:Nat)(ht:P.underlying t=some (.slice e))(hi:P.info? e=some i)(v:Value)(n:Nat)(xs:List Value)(bv:dQ w e size v n xs):
  (Builtin.append_ #[t,t] ty #[v,.slice none 0 0]).run P w= .ok v w:=by
 rcases uE bv with⟨hz,rfl,rfl⟩ | ⟨bv,_⟩
 ·rcases hz with rfl | ⟨b,rfl⟩
  ·exact run_append_owned_none (P:=P) w 0 t ty e i size ht hi _ 0 [] (World.ownsRow_nil _ _ _ _)
  ·simp [Builtin.append_,run_underlying ht,sizeOf,typeInfo,hi,Builtin.lenOf,Builtin.firstCells,storeCells]
 ·exact run_append_owned_none (P:=P) w 0 t ty e i size ht hi v n xs bv
theorem aU.cell_one{H:Nat→Option Obj}{t:CTy}{cs:List Value}{xs:List (E t)}(h:aU H t cs xs): ∀ u∈cs,u.oneCell'=true:=by
 intro u hu
 obtain⟨j,hj⟩:=List.mem_iff_getElem?.1 hu
 have bI:=(zQ.1 hj).1
 have hp:=cI t
 rw [h.1]at bI
 have hi:j / t.size < xs.length:=Nat.div_lt_of_lt_mul (by rw [Nat.mul_comm];exact bI)
 refine Rep.one t _ _ (h.2 _ _ (List.getElem?_eq_getElem hi)) u ?_
 refine List.mem_iff_getElem?.2 ⟨j % t.size,?_⟩
 rw [List.getElem?_take,if_pos (Nat.mod_lt _ hp),List.getElem?_drop,Nat.mul_comm,Nat.div_add_mod]
 exact hj
theorem gC{own:Bool}{id:Nat}{e:TypeId}{t:CTy}{xs:List (E t)}(h:(Entry.row own e t xs).holds B ρ w id)(hf: ∀ b o,ρ.mem b=some o→w.heap[b]? =some o):
  (mB (ρ id)∧xs= [])∨ ∃ b off cap news,ρ id= .slice (some ⟨b,off,none⟩) xs.length cap∧aU ρ.mem t news xs∧xs.length≤cap∧cap≤maxLen∧
   (∀ j u,news[j]? =some u→w.cell? ((⟨b,off,none⟩:Addr).add j)=some u):=by
 cases own with
 |false=>
  rcases eO.cells hf h with h | ⟨b,off,cap,arr,T,fz,h1,h2,h3,h4,_,h5⟩
  ·exact .inl h
  ·right
   rcases h5 with rfl | h5
   ·exact⟨b,off,cap,[],h1,aU.nil _ _,h2,h3,fun j u hj=>by simp at hj⟩
   ·refine⟨b,off,cap,_,h1,h5,h2,h3,fun j u hj=> ?_⟩
    rw [cW,cQ h4]
    rw [List.getElem?_take]at hj
    split at hj
    ·simpa using hj
    ·cases hj
 |true=>
  obtain⟨cs,h1,h2,_⟩:=h
  rcases h1.2 with⟨hv,hn⟩ | ⟨g,cap,cur,hv,_,hg,eP,le,eb,lg⟩
  ·exact .inl ⟨hv,List.length_eq_zero_iff.1 hn⟩
  ·refine .inr ⟨g,0,cap,cs,hv,h2,eP,le,fun j u hj=> ?_⟩
   rw [cW,cQ hg]
   rw [← lg,List.getElem?_take]at hj
   split at hj
   ·simpa using hj
   ·cases hj
theorem cS{n:Nat}(h:n≤9223372036854775807):n≤maxLen:=by simp only [maxLen];omega
theorem qI(c:Ctx B ρ s a w look ent A){cl:Call}{x y:Operand}(ho:o.op= .call cl)(hb:cl.callee= .builtin .append)(df:cl.args.toList= [x,y])(h:rG P look ent A nid cl.argTypes x y=some r)(aS: ∀ i∈r.new,s.used i=false)(ba: ∀ b∈r.nd,b=true)(hC:be B s ρ r o a K):o.wp P a w K Q:=by
 obtain⟨dst,op,ty,pos,after,guard⟩:=o
 simp only at ho;subst ho
 have dH:cl.args= #[x,y]:=by rw [← w7 (xs:=cl.args),df]
 unfold rG at h
 split at h
 ·rename_i id jd t1 t2 hx hy sk
  split at h
  ·rename_i e t xs own e2 t' ys he1 he2
   split at h
   ·rename_i e' inf hT cp
    split at h
    ·rename_i z hz
     split at h
     ·rename_i ht
      subst ht
      cases aA:(Nat.beq t1 t2&&Nat.beq e' e&&Nat.beq inf.size t'.size&&Nat.beq z.cells.size t'.size)with
      |false=>simp [aA]at h
      |true=>
       simp only [aA,cond_true]at h
       cases h
       simp only [w3]at aA
       obtain⟨⟨⟨k1,k2⟩,k3⟩,k4⟩:=aA
       have k1:=q8 k1
       have k2:=q8 k2
       have k3:=q8 k3
       have k4:=q8 k4
       subst k1;subst k2
       have n1:xs.length + ys.length≤9223372036854775807:=by simpa using ba (decide (xs.length + ys.length≤9223372036854775807)) (by simp)
       have n2:(xs.length + ys.length) * inf.bytes≤140737488355328:=by simpa using ba (decide ((xs.length + ys.length) * inf.bytes≤140737488355328)) (by simp)
       have pc:cl.argTypes= #[t1,t1]:=by rw [← w7 (xs:=cl.argTypes),sk]
       have bB:=(c.evC hx).1
       have fe:=(c.evC hy).1
       simp only [Cell.conc]at bB fe
       have dC:=c.hE _ _ he1
       obtain⟨⟨cs,h1,h2,h3⟩,aR,_⟩:=c.hp.he _ _ dC
       obtain⟨hh2,_,_⟩:=c.hp.he _ _ (c.hE _ _ he2)
       have io:s.used nid=false:=aS nid (by simp)
       have fin: ∀ v' w' cs',(Builtin.append_ #[t1,t1] ty #[ρ id,ρ jd]).run P w= .ok v' w'→dQ w' e' t'.size v' (xs++ys).length cs'→aU ρ.mem t' cs' (xs++ys)→Chg w w' (fun k=>k∈az (ρ id))→(∀ b∈az v',w.heap.size≤b∨b∈az (ρ id))→
         Oper.wp P ⟨dst,.call cl,ty,pos,after,guard⟩ a w K Q:=by
        intro v' w' cs' hr bv bw hg hbl
        obtain⟨hX,hp⟩:=c.hp.rowTo dC io hg bv bw hbl
        refine aa (u:=v') (w':=w') ?_ (hC _ v' w' hX ?_ hp)
        ·simp [execOp,resolve,hb,invoke,builtin,dH,bB,fe,pc,hr]
        ·simp only [one,SV.conc,V1.conc,Cell.conc]
         rw [ax _ _ (bN bv)]
       rcases gC hh2 c.hp.hf.dat with⟨hv,hn⟩ | ⟨b,off,cap,news,hv,bw,eP,le,hcells⟩
       ·subst hn
        rcases hv with hv | ⟨b,hv⟩
        ·have hr:=ef (P:=P) (w:=w) t1 ty e' inf t'.size hT cp (ρ id) xs.length cs h1
         rw [← hv]at hr
         exact fin _ _ cs hr (by simpa using h1) (by simpa using h2) (Chg.refl _ _) fun b hb=> .inr hb
        ·obtain⟨v',w',hr,g1,g2,g3⟩:=cj (P:=P) t1 ty e' inf z t'.size inf.bytes hT cp hz k3 rfl k4 (cI t') (ρ id) xs.length cs h1 b 0 0 [] (by simp) (fun j u hj=>by simp at hj) (fun u hu=>by simp at hu) (cS (by simpa using n1)) (by simpa using n2)
         rw [← hv]at hr
         exact fin _ _ _ hr (by simpa using g1) (by simpa using h2) g2 g3
       ·obtain⟨v',w',hr,g1,g2,g3⟩:=cj (P:=P) t1 ty e' inf z t'.size inf.bytes hT cp hz k3 rfl k4 (cI t') (ρ id) xs.length cs h1 ⟨b,off,none⟩ ys.length cap news bw.1 hcells bw.cell_one (cS n1) n2
        rw [← hv]at hr
        refine fin _ _ _ hr (by rw [w4];exact g1) (h2.append bw) g2 g3
     ·cases h
    ·cases h
   ·cases h
  ·rename_i e t xs e2 t' ys he1 he2
   split at h
   ·rename_i e' inf hT cp
    split at h
    ·rename_i z hz
     split at h
     ·rename_i ht
      subst ht
      cases aA:(Nat.beq t1 t2&&Nat.beq e' e&&Nat.beq inf.size t'.size&&Nat.beq z.cells.size t'.size&& !Nat.beq id jd)with
      |false=>simp [aA]at h
      |true=>
       simp only [aA,cond_true]at h
       cases h
       simp only [w3,Bool.not_eq_true']at aA
       obtain⟨⟨⟨⟨k1,k2⟩,k3⟩,k4⟩,k5⟩:=aA
       have k1:=q8 k1
       have k2:=q8 k2
       have k3:=q8 k3
       have k4:=q8 k4
       subst k1;subst k2
       have ij:id≠jd:=fun hh=>by subst hh;simp at k5
       have n1:xs.length + ys.length≤9223372036854775807:=by simpa using ba (decide (xs.length + ys.length≤9223372036854775807)) (by simp)
       have n2:(xs.length + ys.length) * inf.bytes≤140737488355328:=by simpa using ba (decide ((xs.length + ys.length) * inf.bytes≤140737488355328)) (by simp)
       have pc:cl.argTypes= #[t1,t1]:=by rw [← w7 (xs:=cl.argTypes),sk]
       have bB:=(c.evC hx).1
       have fe:=(c.evC hy).1
       simp only [Cell.conc]at bB fe
       have dC:=c.hE _ _ he1
       have hent2:=c.hE _ _ he2
       obtain⟨⟨cs,Ls,h1,_⟩,aR,_⟩:=c.hp.he _ _ dC
       obtain⟨⟨ds,Ms,g1,g2,_⟩,hjd,_⟩:=c.hp.he _ _ hent2
       have io:s.used nid=false:=aS nid (by simp)
       have fin: ∀ v' w',(Builtin.append_ #[t1,t1] ty #[ρ id,ρ jd]).run P w= .ok v' w'→dQ w' e' t'.size v' (xs++ys).length (cs++ds)→Chg w w' (fun k=>k∈az (ρ id))→(∀ b∈az v',w.heap.size≤b∨b∈az (ρ id))→
         Oper.wp P ⟨dst,.call cl,ty,pos,after,guard⟩ a w K Q:=by
        intro v' w' hr bv hg hbl
        obtain⟨ρ',hv,hX,hp⟩:=c.hp.treeAppend dC hent2 ij io hg h1 g1 bv hbl
        refine aa (u:=v') (w':=w') ?_ (hC ρ' v' w' hX ?_ hp)
        ·simp [execOp,resolve,hb,invoke,builtin,dH,bB,fe,pc,hr]
        ·simp only [one,SV.conc,V1.conc,Cell.conc]
         exact hv.symm
       rcases g1.2 with⟨hv,hn⟩ | ⟨g,cap,cur,hv,hc0,hg,eP,le,eb,lg⟩
       ·have hds:ds= []:=List.length_eq_zero_iff.1 (by rw [g1.1,hn,Nat.zero_mul])
        have hys:ys= []:=List.length_eq_zero_iff.1 hn
        rcases hv with hv | ⟨b,hv⟩
        ·have hr:=ef (P:=P) (w:=w) t1 ty e' inf t'.size hT cp (ρ id) xs.length cs h1
         rw [← hv]at hr
         exact fin _ _ hr (by subst hds hys;simpa using h1) (Chg.refl _ _) fun b hb=> .inr hb
        ·obtain⟨v',w',hr,u1,u2,u3⟩:=cj (P:=P) t1 ty e' inf z t'.size inf.bytes hT cp hz k3 rfl k4 (cI t') (ρ id) xs.length cs h1 b 0 0 [] (by simp) (fun j u hj=>by simp at hj) (fun u hu=>by simp at hu) (cS (by omega)) (by rw [hn]at n2;exact n2)
         rw [← hv]at hr
         exact fin _ _ hr (by subst hds hys;simpa using u1) u2 u3
       ·obtain⟨v',w',hr,u1,u2,u3⟩:=cj (P:=P) t1 ty e' inf z t'.size inf.bytes hT cp hz k3 rfl k4 (cI t') (ρ id) xs.length cs h1 ⟨g,0,none⟩ ys.length cap ds g1.1
         (fun j u hj=>by
          rw [cW,cQ hg]
          rw [← lg,List.getElem?_take]at hj
          split at hj
          ·simpa using hj
          ·cases hj) (g2.one g1.1) (cS n1) n2
        rw [← hv]at hr
        exact fin _ _ hr (by rw [w4];exact u1) u2 u3
     ·cases h
    ·cases h
   ·cases h
  ·cases h
 ·rename_i id b c0 t1 t2 hx hy sk
  split at h
  ·rename_i e t xs he1
   split at h
   ·rename_i e' inf hT cp
    split at h
    ·rename_i z hz
     cases aA:(Nat.beq t1 t2&&Nat.beq e' e&&Nat.beq inf.size t.size&&Nat.beq z.cells.size t.size)with
     |false=>simp [aA]at h
     |true=>
      simp only [aA,cond_true]at h
      cases h
      simp only [w3]at aA
      obtain⟨⟨⟨k1,k2⟩,k3⟩,k4⟩:=aA
      have k1:=q8 k1
      have k2:=q8 k2
      have k3:=q8 k3
      have k4:=q8 k4
      subst k1;subst k2
      have n1:xs.length≤9223372036854775807:=by simpa using ba (decide (xs.length≤9223372036854775807)) (by simp)
      have n2:xs.length * inf.bytes≤140737488355328:=by simpa using ba (decide (xs.length * inf.bytes≤140737488355328)) (by simp)
      have pc:cl.argTypes= #[t1,t1]:=by rw [← w7 (xs:=cl.argTypes),sk]
      have bB:=(c.evC hx).1
      have fe:=(c.evC hy).1
      simp only [Cell.conc]at bB fe
      have dC:=c.hE _ _ he1
      obtain⟨⟨cs,h1,h2,h3⟩,aR,_⟩:=c.hp.he _ _ dC
      have io:s.used nid=false:=aS nid (by simp)
      obtain⟨v',w',hr,g1,g2,g3⟩:=cj (P:=P) t1 ty e' inf z t.size inf.bytes hT cp hz k3 rfl k4 (cI t) (ρ id) xs.length cs h1 b 0 c0 [] (by simp) (fun j u hj=>by simp at hj) (fun u hu=>by simp at hu) (cS (by simpa using n1)) (by simpa using n2)
      have bv:dQ w' e' t.size v' xs.length cs:=by simpa using g1
      obtain⟨hX,hp⟩:=c.hp.rowTo dC io g2 bv h2 g3
      refine aa (u:=v') (w':=w') ?_ (hC _ v' w' hX ?_ hp)
      ·simp [execOp,resolve,hb,invoke,builtin,dH,bB,fe,pc,hr]
      ·simp only [one,SV.conc,V1.conc,Cell.conc]
       rw [ax _ _ (bN bv)]
    ·cases h
   ·cases h
  ·cases h
 ·rename_i id t1 t2 hx hy sk
  split at h
  ·rename_i e t xs he1
   split at h
   ·rename_i e' inf hT cp
    split at h
    ·rename_i z hz
     cases aA:(Nat.beq t1 t2&&Nat.beq e' e&&Nat.beq inf.size t.size&&Nat.beq z.cells.size t.size)with
     |false=>simp [aA]at h
     |true=>
      simp only [aA,cond_true]at h
      cases h
      simp only [w3]at aA
      obtain⟨⟨⟨k1,k2⟩,k3⟩,k4⟩:=aA
      have k1:=q8 k1
      have k2:=q8 k2
      have k3:=q8 k3
      have k4:=q8 k4
      subst k1;subst k2
      have n1:xs.length≤9223372036854775807:=by simpa using ba (decide (xs.length≤9223372036854775807)) (by simp)
      have n2:xs.length * inf.bytes≤140737488355328:=by simpa using ba (decide (xs.length * inf.bytes≤140737488355328)) (by simp)
      have pc:cl.argTypes= #[t1,t1]:=by rw [← w7 (xs:=cl.argTypes),sk]
      have bB:=(c.evC hx).1
      have fe:=(c.evC hy).1
      simp only [Cell.conc]at bB fe
      have dC:=c.hE _ _ he1
      obtain⟨⟨cs,h1,h2,h3⟩,aR,_⟩:=c.hp.he _ _ dC
      have io:s.used nid=false:=aS nid (by simp)
      have hr:=ef (P:=P) (w:=w) t1 ty e' inf t.size hT cp (ρ id) xs.length cs h1
      obtain⟨hX,hp⟩:=c.hp.rowTo dC io (Chg.refl _ _) h1 h2 (fun b hb=> .inr hb)
      refine aa (u:=ρ id) (w':=w) ?_ (hC _ (ρ id) w hX ?_ hp)
      ·simp [execOp,resolve,hb,invoke,builtin,dH,bB,fe,pc,hr]
      ·simp only [one,SV.conc,V1.conc,Cell.conc]
       rw [ax _ _ (bN h1)]
    ·cases h
   ·cases h
  ·cases h
 ·cases h
end
end Go.SX
namespace Go.SX
open Go.RowKit
section
variable{P:Program}{tr:Bool}{s:St}{look:Nat→Option SS}{ent:Nat→Option Entry}{A:List (Nat×Bool)}{nid:Nat}{o:Oper}{r:Raw}{B:Base}{ρ:Nm}{a:Act}{w:World}{K:Act→World→Prop}{Q:Exit→Act→World→Prop}
theorem Nm.of_nm{ρ ρ':Nm}(h:ρ'.nm=ρ.nm)(i:Nat):ρ' i=ρ i:=by simp [Nm.of,h]
theorem wc{ρ ρ':Nm}(h:ρ'.nm=ρ.nm)(c:Cell):c.conc ρ'=c.conc ρ:=
 Cell.conc_congr (U:=fun _=>true) (fun id _=>Nm.of_nm h id) (by cases c <;> simp [Cell.inU])
theorem lj{ρ ρ':Nm}(h:ρ'.nm=ρ.nm)(cs:List Cell):cs.map (Cell.conc ρ')=cs.map (Cell.conc ρ):=
 List.map_congr_left fun c _=>wc h c
theorem look?_frz_not{ent:Nat→Option Entry}: ∀ {l:List Nat} {i:Nat},i∉l→look? (frz ent l) i=none
 | [],i,_=>rfl
 |id::r,i,h=>by
  simp only [List.mem_cons,not_or]at h
  simp only [frz]
  split
  ·simp only [look?]
   cases hb:Nat.beq id i with
   |true=>exact(h.1 (q8 hb).symm).elim
   |false=>exact look?_frz_not h.2
  ·exact look?_frz_not h.2
theorem kh: ∀ (t:CTy) (x:E t) (n:Nat),t.flat=true→(bM t x n).map (Cell.conc ρ)=nQ t x
 | .int _,_,_,_=>rfl
 | .bool,_,_,_=>rfl
 | .str,_,_,_=>rfl
 | .sl _ _,_,_,h=>by cases h
 | .fn,_,_,h=>by cases h
 | .pair a b,p,n,h=>by
  simp only [CTy.flat,w3]at h
  simp only [bM,List.map_append,nQ,kh a p.1 n h.1,kh b p.2 _ h.2]
theorem lV{α:Type}(cur N:List α)(k off z m:Nat)(h1:off + N.length≤z)(h2:k + z≤m)(h3:m≤cur.length):
  (cur.take (k + off)++N++cur.drop (k + off + N.length)).take m=
   (cur.take m).take k++((((cur.take m).drop k).take z).take off++N++(((cur.take m).drop k).take z).drop (off + N.length))++(cur.take m).drop (k + z):=by
 apply List.ext_getElem?
 intro j
 simp only [List.getElem?_take,List.getElem?_append,List.getElem?_drop,w4,w5,List.length_drop]
 have e1:min (k + off) cur.length=k + off:=by omega
 have e2:min m cur.length=m:=by omega
 have e3:min k m=k:=by omega
 have e4:min z (m - k)=z:=by omega
 have e5:min off z=off:=by omega
 simp only [e1,e2,e3,e4,e5]
 by_cases c1:j < k
 ·have:j < k + off:=by omega
  simp [c1,this,show j < m by omega,show j < k + off + N.length by omega,show j < k + (off + N.length + (z - (off + N.length))) by omega]
 ·by_cases c2:j < k + off
  ·simp [c1,c2,show j < m by omega,show j < k + off + N.length by omega,show j < k + (off + N.length + (z - (off + N.length))) by omega,show j - k < off + N.length by omega,show j - k < off by omega,show j - k < z by omega,show k + (j - k)=j by omega]
  ·by_cases c3:j < k + off + N.length
   ·simp [c1,c2,c3,show j < m by omega,show j < k + (off + N.length + (z - (off + N.length))) by omega,show j - k < off + N.length by omega,show ¬ j - k < off by omega,show j - (k + off)=j - k - off by omega]
   ·by_cases c4:j < k + z
    ·simp [c1,c3,show j < m by omega,show j < k + (off + N.length + (z - (off + N.length))) by omega,show ¬ j - k < off + N.length by omega,show off + N.length + (j - k - (off + N.length)) < z by omega,
      show k + (off + N.length + (j - k - (off + N.length))) < m by omega]
     congr 1;omega
    ·by_cases c5:j < m
     ·simp [c3,c5,show ¬ j < k + (off + N.length + (z - (off + N.length))) by omega,show k + z + (j - (k + (off + N.length + (z - (off + N.length))))) < m by omega]
      congr 1;omega
     ·simp [c5,show ¬ j < k + (off + N.length + (z - (off + N.length))) by omega,show ¬ k + z + (j - (k + (off + N.length + (z - (off + N.length))))) < m by omega]
theorem uJ{α:Type}{cs D:List α}{k z n:Nat}(hl:cs.length=n * z)(hk:k < n)(hD:D.length=z):
  ((cs.take (k * z)++D++cs.drop (k * z + z)).drop (k * z)).take z=D∧ ∀ j,j≠k→j < n→((cs.take (k * z)++D++cs.drop (k * z + z)).drop (j * z)).take z=(cs.drop (j * z)).take z:=by
 have eP:=bO (z:=z) hk
 refine⟨?_,fun j hj hjn=> ?_⟩
 ·rw [List.append_assoc,List.drop_append,List.drop_take,Nat.sub_self,List.take_zero,List.nil_append,w5,hl,Nat.min_eq_left (by omega),Nat.sub_self,List.drop_zero,List.take_append_of_le_length (by omega),← hD,List.take_length]
 ·by_cases bI:j < k
  ·have h1:j * z + z≤k * z:=bO bI
   have e:(cs.take (k * z)++D++cs.drop (k * z + z)).drop (j * z)=(cs.drop (j * z)).take (k * z - j * z)++(D++cs.drop (k * z + z)):=by
    rw [List.append_assoc,List.drop_append_of_le_length (by rw [w5,hl];omega),List.drop_take]
   rw [e,List.take_append_of_le_length (by rw [w5,List.length_drop,hl];have:=bO (z:=z) hjn;omega),List.take_take,Nat.min_eq_left (by omega)]
  ·have hgt:k < j:=by omega
   have h1:k * z + z≤j * z:=bO hgt
   have e:(cs.take (k * z)++D++cs.drop (k * z + z)).drop (j * z)=cs.drop (j * z):=by
    rw [List.drop_append,List.drop_eq_nil_of_le (by rw [w4,w5,hl,hD];omega),List.nil_append,w4,w5,hl,hD,List.drop_drop]
    congr 1;omega
   rw [e]
theorem Hp.treeSet{ent:Nat→Option Entry}{used:Nat→Bool}(h:Hp B ρ ent used w){id:Nat}{e:TypeId}{t:CTy}{xs:List (E t)}{k:Nat}{hc:List Cell}(he:ent id=some (.tree e t xs (some (k,hc)))){ns:List Cell}{off:Nat}
  (re: ∀ c∈ns,c.inU used) (bj:off + ns.length≤t.size):
  ∃ g cap cur,ρ id= .slice (some ⟨g,0,none⟩) xs.length cap∧w.heap[g]? =some (.cells cur e (0,0))∧k * t.size + t.size≤cur.size∧
   Ext B used ρ ρ∧Hp B ρ (ae ent [(id,.tree e t xs (some (k,hc.take off++ns++hc.drop (off + ns.length))))]) used (w.setRow g (cur.toList.take (k * t.size + off)++ns.map (Cell.conc ρ)++cur.toList.drop (k * t.size + off + ns.length)).toArray):=by
 obtain⟨⟨cs,Ls,h1,⟨t1,t2,t3,t4⟩,h3,h4,h5⟩,aR,ei⟩:=h.he _ _ he
 obtain⟨hk,hLk,ux⟩:=t2 k hc rfl
 have bI:=bO (z:=t.size) hk
 rcases h1.2 with⟨_,hn⟩ | ⟨g,cap,cur,hv,hc0,hg,eP,le,eb,lg⟩
 ·omega
 have hle2:xs.length * t.size≤cur.size:=by rw [eb];exact Nat.mul_le_mul_right _ eP
 refine⟨g,cap,cur,hv,hg,by omega,?_⟩
 have hgo: ∀ b∈bp Ls,b≠g:=fun b hb hbg=>h4 b (by rw [hv,bC hc0,hbg];simp) (by rw [h3];exact hb)
 obtain⟨W,hW⟩: ∃ W,W=w.setRow g (cur.toList.take (k * t.size + off)++ns.map (Cell.conc ρ)++cur.toList.drop (k * t.size + off + ns.length)).toArray:=⟨_,rfl⟩
 rw [← hW]
 have hspl:=lV cur.toList (ns.map (Cell.conc ρ)) (k * t.size) off t.size (xs.length * t.size) (by simpa using bj) bI (by simpa using hle2)
 rw [lg,ux,List.length_map]at hspl
 have jp:cs.length=xs.length * t.size:=h1.1
 have hhc:hc.length=t.size:=by
  have:=congrArg List.length ux
  rw [w5,List.length_drop,List.length_map,jp]at this
  omega
 have hDl:((hc.map (Cell.conc ρ)).take off++ns.map (Cell.conc ρ)++(hc.map (Cell.conc ρ)).drop (off + ns.length)).length=t.size:=by
  simp only [w4,w5,List.length_drop,List.length_map];omega
 obtain⟨s1,s2⟩:=uJ (n:=xs.length) jp hk hDl
 have:=h.toTree (ρ':=ρ) (w':=W) (X:=fun b=>b=g) (G:= []) (id:=id) (new:= []) (e:=e) (t:=t) (xs:=xs) (ho:=some (k,hc.take off++ns++hc.drop (off + ns.length)))
  (cs:=(cur.toList.take (k * t.size + off)++ns.map (Cell.conc ρ)++cur.toList.drop (k * t.size + off + ns.length)).take (xs.length * t.size)) (Ls:=Ls)
  (by rw [hW];exact Chg.setRow w g _) (fun _ _=>rfl) rfl (fun _ _=>rfl) (fun g hg=>by cases hg) aR (fun c le=> ?_) (fun b hb=>⟨id,.inl rfl,_,he,by subst hb;simp only [Entry.ob,hv,bC hc0];simp⟩)
  (fun b hb=> .inr ⟨id,.inl rfl,_,he,by simp only [Entry.ob,h3];exact hb⟩) ?_ ⟨t1,fun k' hc' hk'=> ?_,fun j y l hj hy hl=> ?_,t4⟩ h3 (fun b hb=>by rw [← h3];exact h4 b hb)
 ·exact⟨Ext.refl _ _ _,this.2⟩
 ·simp only [List.append_assoc,w8]at le
  rcases le with le | le | le
  ·exact ei c (List.mem_of_mem_take le)
  ·exact re c le
  ·exact ei c (List.mem_of_mem_drop le)
 ·refine⟨?_,.inr ⟨g,cap,(cur.toList.take (k * t.size + off)++ns.map (Cell.conc ρ)++cur.toList.drop (k * t.size + off + ns.length)).toArray,hv,hc0,?_,eP,le,?_,?_⟩⟩
  ·simp only [w5,w4,List.length_map,List.length_drop,Array.length_toList];omega
  ·rw [hW];exact setRow_heap w g _ _ e _ hg
  ·simp only [List.size_toArray,w5,w4,List.length_map,List.length_drop,Array.length_toList];omega
  ·rfl
 ·cases hk'
  refine⟨hk,hLk,?_⟩
  rw [hspl,s1]
  simp only [List.map_append,List.map_take,List.map_drop]
 ·have ij:j≠k:=hj k _ rfl
  have hjn:j < xs.length:=(zQ.1 hy).1
  rw [hspl,s2 j ij hjn]
  refine(t3 j y l (fun a b hab=>by cases hab;exact ij) hy hl).keep fun b hb=> ?_
  rw [hW]
  exact setRow_other w g b _ fun e=>hgo b (bh.2 ⟨j,l,hl,hb⟩) e
theorem eO.win{H:Nat→Option Obj}{t:CTy}{v:Value}{xs:List (E t)}(h:eO H t v xs){i:Nat}(hi:i < xs.length):
  ∃ b off cap arr T fz,v= .slice (some ⟨b,off,none⟩) xs.length cap∧xs.length≤cap∧cap≤maxLen∧H b=some (.cells arr T fz)∧off + xs.length * t.size≤arr.size∧aU H t ((arr.toList.drop off).take (xs.length * t.size)) xs:=by
 rcases h with⟨_,hn⟩ | ⟨b,off,cap,arr,T,fz,h1,h2,h3,h4,h5⟩
 ·rw [hn]at hi;simp at hi
 ·have hp:=cI t
  have hlast:off + xs.length * t.size≤arr.size:=by
   have hx:xs[xs.length - 1]? =some (xs[xs.length - 1]'(by omega)):=List.getElem?_eq_getElem (by omega)
   have hl:=Rep.length t _ _ (h5 _ _ hx)
   rw [w5,List.length_drop,Array.length_toList]at hl
   have e:xs.length * t.size=(xs.length - 1) * t.size + t.size:=by
    have:(xs.length - 1 + 1) * t.size=(xs.length - 1) * t.size + t.size:=by rw [Nat.add_mul,Nat.one_mul]
    rw [← this];congr 1;omega
   omega
  refine⟨b,off,cap,arr,T,fz,h1,h2,h3,h4,hlast,by have:=Array.length_toList (xs:=arr);rw [w5,List.length_drop];omega,fun j x hx=> ?_⟩
  have bI:=bO (z:=t.size) (zQ.1 hx).1
  rw [List.drop_take,List.take_take,Nat.min_eq_left (by omega),List.drop_drop]
  exact h5 j x hx
theorem eO.ofWin{H:Nat→Option Obj}{t:CTy}{xs:List (E t)}{b off cap:Nat}{arr:Array Value}{T:TypeId}{fz:Nat×Nat}(h1:xs.length≤cap)(h2:cap≤maxLen)(h3:H b=some (.cells arr T fz))
  (h:aU H t ((arr.toList.drop off).take (xs.length * t.size)) xs):eO H t (.slice (some ⟨b,off,none⟩) xs.length cap) xs:=by
 refine .inr ⟨b,off,cap,arr,T,fz,rfl,h1,h2,h3,fun j x hx=> ?_⟩
 have bI:=bO (z:=t.size) (zQ.1 hx).1
 have:=h.2 j x hx
 rwa [List.drop_take,List.take_take,Nat.min_eq_left (by omega),List.drop_drop]at this
theorem vn{α:Type}(l r:List α)(a k:Nat)(h:a + k≤l.length):(l.take (a + k)++r).drop a=(l.drop a).take k++r:=by
 rw [List.drop_append_of_le_length (by rw [w5];omega),List.drop_take,show a + k - a=k by omega]
theorem Hp.wkSet{ent:Nat→Option Entry}{used:Nat→Bool}(h:Hp B ρ ent used w){id:Nat}{e:TypeId}{t:CTy}{xs xs':List (E t)}{w':World}(he:ent id=some (.wk e t xs))
  (hg:Chg w w' (fun k=>k∈az (ρ id))) (hr:eO (qS w') t (ρ id) xs'):Ext B used ρ ρ∧Hp B ρ (ae ent [(id,.wk e t xs')]) used w':=by
 obtain⟨⟨h1,h2,h3⟩,aR,_⟩:=h.he _ _ he
 have fl: ∀ b∈az (ρ id),Was ent ρ [(id,.wk e t xs')] b:=fun b hb=>⟨id,_,_,he,hb,look?_same _ _ _⟩
 rw [show used=ag used [] from rfl]
 refine h.chg hg (fun _ _=>rfl) (fun _ _ h=>h) (fun k hk=>fl k hk) (fun _ _ hb=> .inl hb) (fun i x hl=> ?_) (fun i x b hl hb'=> ?_) (fun i i' x x' b hl hl' hb1 hb2=> ?_)
 ·obtain⟨rfl,rfl⟩:=look?_one hl
  exact⟨⟨h1,hr,h3⟩,aR,trivial⟩
 ·obtain⟨rfl,rfl⟩:=look?_one hl
  exact .inr (fl b hb')
 ·exact(look?_one hl).1.trans (look?_one hl').1.symm
theorem sf(c:Ctx B ρ s a w look ent A){T:TypeId}{x y:Operand}(ho:o.op= .store T x y)(h:uj P look ent A nid T x y=some r)(aS: ∀ i∈r.new,s.used i=false)(ba: ∀ b∈r.nd,b=true)(hC:be B s ρ r o a K):o.wp P a w K Q:=by
 obtain⟨dst,op,ty,pos,after,guard⟩:=o
 simp only at ho;subst ho
 unfold uj at h
 split at h
 ·rename_i id off v hx hy
  split at h
  ·rename_i U cs ns he re
   cases aA:dw P T off cs.length ns with
   |false=>simp [aA]at h
   |true=>
    simp [aA]at h;subst h
    have dC:=c.hE _ _ he
    obtain⟨⟨b,h1,h2,_⟩,_,ei⟩:=c.hp.he _ _ dC
    have bB:=(c.evC hx).1
    obtain⟨fe,hyin⟩:=c.ev1 hy
    have hnin:=V1.cells?_inU hyin re
    have hr:=gE (ρ:=ρ) (w:=w) (b:=b) (off:=off) aA (fun h=>by simpa using h) (V1.cells?_conc ρ re) h2
    obtain⟨hX,hp⟩:=c.hp.setBox dC (ns:=cs.take off++ns++cs.drop (off + ns.length)) (fun c hc=>by
     simp only [List.append_assoc,w8]at hc
     rcases hc with hc | hc | hc
     ·exact ei c (List.mem_of_mem_take hc)
     ·exact hnin c hc
     ·exact ei c (List.mem_of_mem_drop hc))
    have hbk:gu (ρ id)=b:=by rw [h1];rfl
    rw [hbk]at hp
    rw [nB,hbk]at bB
    obtain⟨W,hW⟩: ∃ W,W=w.setRow b ((cs.take off++ns++cs.drop (off + ns.length)).map (Cell.conc ρ)).toArray:=⟨_,rfl⟩
    rw [← hW]at hp
    have hr':(storeVar T ⟨b,off,none⟩ (v.conc ρ)).run P w= .ok () W:=by
     rw [hr,hW];simp [List.map_take,List.map_drop]
    refine gM (w':=W) ?_ (hC ρ _ W hX (SV.conc_ofValue ρ undef).symm (by simpa [kn,List.append_assoc] using hp))
    simp [execOp,Instr.storeAt,bB,fe,Instr.sureAddr,hr']
  ·cases h
 ·rename_i id z i off v hx hy
  split at h
  ·rename_i e t xs ns he re
   cases aA:(Nat.beq z t.size&&dw P T off t.size ns&&(t.flat||Nat.beq off 0&&Nat.beq ns.length t.size))with
   |false=>simp [aA]at h
   |true=>
    simp only [aA,cond_true]at h
    simp only [w3]at aA
    obtain⟨⟨k1,k2⟩,k3⟩:=aA
    have:=q8 k1;subst this
    split at h
    ·rename_i y' l jp
     cases hm:memN l id with
     |true=>simp [hm]at h
     |false=>
      simp only [hm,cond_false]at h
      cases h
      have hi:i < xs.length:=by simpa using ba (decide (i < xs.length)) (by simp)
      have dC:=c.hE _ _ he
      have bB:=(c.evC hx).1
      obtain⟨fe,hyin⟩:=c.ev1 hy
      obtain⟨ρ1,n1,x1,h1⟩:=c.hp.freezes c.hE l
      have hnl:id∉l:=fun hh=>by rw [memN_mem.2 hh]at hm;cases hm
      have hent1:ae s.ent (frz ent l) id=some (.row true e t xs):=by simp only [ae,look?_frz_not hnl];exact dC
      obtain⟨⟨cs,g1,g2,g3⟩,_,_⟩:=h1.he _ _ hent1
      have bw:=fW c.hE h1 t _ _ _ jp fun i hi=>hi
      have bI:=bO (z:=t.size) hi
      rcases g1.2 with⟨_,hn⟩ | ⟨g,cap,cur,hv,hc0,hg,eP,le,eb,lg⟩
      ·omega
      ·have aR:=Nm.of_nm n1 id
       have hle2:xs.length * t.size≤cur.size:=by rw [eb];exact Nat.mul_le_mul_right _ eP
       have hns':off + ns.length≤t.size:=by
        unfold dw at k2
        split at k2
        ·simp only [w3]at k2;exact zJ k2.1.2
        ·cases k2
       have hr:=gE (ρ:=ρ) (w:=w) (b:=g) (off:=i * t.size + off) (cur:=cur) k2 (fun h=>by omega) (V1.cells?_conc ρ re) hg
       obtain⟨W,hW⟩: ∃ W,W=w.setRow g (cur.toList.take (i * t.size + off)++ns.map (Cell.conc ρ)++cur.toList.drop (i * t.size + off + ns.length)).toArray:=⟨_,rfl⟩
       rw [← hW]at hr
       have hgr:w.grownBy W (ρ1 id).ownBlock:=by
        rw [hv,hW]
        exact⟨rfl,rfl,rfl,by simp [World.setRow],fun k _ hk=>setRow_other w g k _ fun e=>hk (by simp [Value.ownBlock,e])⟩
       have hspl:=lV cur.toList (ns.map (Cell.conc ρ)) (i * t.size) off t.size (xs.length * t.size) (by simpa using hns') bI (by simpa using hle2)
       have bv:W.ownsRow 0 e t.size (ρ1 id) (xs.set i y').length ((cur.toList.take (i * t.size + off)++ns.map (Cell.conc ρ)++cur.toList.drop (i * t.size + off + ns.length)).take (xs.length * t.size)):=by
        refine⟨?_,.inr ⟨g,cap,(cur.toList.take (i * t.size + off)++ns.map (Cell.conc ρ)++cur.toList.drop (i * t.size + off + ns.length)).toArray,?_,Nat.zero_le _,?_,?_,le,?_,?_⟩⟩
        ·simp only [zV,w5,w4,List.length_map,List.length_drop,Array.length_toList];omega
        ·rw [zV];exact hv
        ·rw [hW];exact setRow_heap w g _ _ e _ hg
        ·rw [zV];exact eP
        ·simp only [List.size_toArray,w5,w4,List.length_map,List.length_drop,Array.length_toList];omega
        ·rw [zV]
       have hds:aU ρ1.mem t ((cur.toList.take (i * t.size + off)++ns.map (Cell.conc ρ)++cur.toList.drop (i * t.size + off + ns.length)).take (xs.length * t.size)) (xs.set i y'):=by
        rw [List.length_map]at hspl
        rw [hspl,lg]
        refine aU.set g2 hi ?_
        have ux:=g2.2 i _ (jZ (d:=de t) hi)
        rw [lj n1]at bw
        simp only [List.map_append,List.map_take,List.map_drop]at bw
        rcases Bool.or_eq_true_iff.1 k3 with hf | hf
        ·rw [kh t _ nid hf]at bw
         rw [Rep.flat t _ _ hf ux];exact bw
        ·simp only [w3]at hf
         have f1:=q8 hf.1
         have f2:=q8 hf.2
         subst f1
         rw [f2]at bw ⊢
         rw [List.take_zero,List.drop_eq_nil_of_le (by rw [List.length_map,ki];omega)]at bw
         rw [List.take_zero,List.drop_eq_nil_of_le (by rw [w5];omega)]
         exact bw
       obtain⟨hX,hp⟩:=h1.rowSet hent1 (Chg.own hgr fun k hk=>by rw [hv]at hk ⊢;simp only [Value.ownBlock,q9]at hk;rw [bC hc0,← hk];simp) (gO bv) hds
       rw [cZ]at hp
       refine gM (w':=W) ?_ (hC ρ1 _ W (x1.trans hX fun _ h=>h) (SV.conc_ofValue ρ1 undef).symm hp)
       rw [gh]at bB
       rw [aR]at hv
       simp only [hv,gu,lp,Nat.zero_add]at bB
       simp [execOp,Instr.storeAt,bB,fe,Instr.sureAddr,hr]
    ·cases h
  ·rename_i e t xs ns he re
   cases aA:(Nat.beq z t.size&&dw P T off t.size ns)with
   |false=>simp [aA]at h
   |true=>
    simp only [aA,cond_true]at h
    simp only [w3]at aA
    obtain⟨k1,k2⟩:=aA
    have:=q8 k1;subst this
    split at h
    ·rename_i y' jp
     cases h
     have hi:i < xs.length:=by simpa using ba (decide (i < xs.length)) (by simp)
     have dC:=c.hE _ _ he
     have bB:=(c.evC hx).1
     obtain⟨fe,hyin⟩:=c.ev1 hy
     obtain⟨⟨hf,g2,g3⟩,_,_⟩:=c.hp.he _ _ dC
     have h0:Hp B ρ (ae s.ent (frz ent [])) s.used w:=c.hp
     have bw:=fW c.hE h0 t _ _ _ jp fun i hi=>hi
     have hns':off + ns.length≤t.size:=by
      unfold dw at k2
      split at k2
      ·simp only [w3]at k2;exact zJ k2.1.2
      ·cases k2
     obtain⟨b,o0,cap,arr,T',fz,hv,q2,q3,q4,q5,q6⟩:=g2.win hi
     obtain⟨hg,a',T'',hoo⟩:=lK.1 q4
     cases hoo
     have bI:=bO (z:=t.size) hi
     have hr:=gE (ρ:=ρ) (w:=w) (b:=b) (off:=o0 + (i * t.size + off)) (cur:=arr) k2 (fun h=>by omega) (V1.cells?_conc ρ re) hg
     obtain⟨W,hW⟩: ∃ W,W=w.setRow b (arr.toList.take (o0 + (i * t.size + off))++ns.map (Cell.conc ρ)++arr.toList.drop (o0 + (i * t.size + off) + ns.length)).toArray:=⟨_,rfl⟩
     rw [← hW]at hr
     have hspl:=lV (arr.toList.drop o0) (ns.map (Cell.conc ρ)) (i * t.size) off t.size (xs.length * t.size) (by simpa using hns') bI (by have:=Array.length_toList (xs:=arr);rw [List.length_drop];omega)
     have hcut:(arr.toList.take (o0 + (i * t.size + off))++ns.map (Cell.conc ρ)++arr.toList.drop (o0 + (i * t.size + off) + ns.length)).drop o0=(arr.toList.drop o0).take (i * t.size + off)++ns.map (Cell.conc ρ)++(arr.toList.drop o0).drop (i * t.size + off + (ns.map (Cell.conc ρ)).length):=by
      rw [List.append_assoc,vn _ _ _ _ (by rw [Array.length_toList];omega),List.append_assoc,List.drop_drop,List.length_map]
      congr 3;omega
     have hds:aU (qS W) t (((arr.toList.take (o0 + (i * t.size + off))++ns.map (Cell.conc ρ)++arr.toList.drop (o0 + (i * t.size + off) + ns.length)).drop o0).take (xs.length * t.size)) (xs.set i y'):=by
      rw [hcut,hspl]
      have q7:aU (qS W) t ((arr.toList.drop o0).take (xs.length * t.size)) xs:=⟨q6.1,fun j x hx=>by rw [Rep.flat t _ _ hf (q6.2 j x hx)];exact Rep.of_flat t x hf⟩
      refine aU.set q7 hi ?_
      have ux:=q6.2 i _ (jZ (d:=de t) hi)
      simp only [List.map_append,List.map_take,List.map_drop]at bw
      rw [kh t _ nid hf]at bw
      rw [Rep.flat t _ _ hf ux]
      rw [List.length_map]
      rw [Rep.flat t _ _ hf bw]
      exact Rep.of_flat t _ hf
     have eb:b∈az (ρ id):=by rw [hv,bC (by omega)];simp
     obtain⟨hX,hp⟩:=c.hp.wkSet (xs':=xs.set i y') dC (w':=W) (by
      rw [hW]
      exact⟨rfl,rfl,rfl,by simp [World.setRow],fun k _ hk=>setRow_other w b k _ fun e=>hk (by rw [e];exact eb)⟩) (by
      rw [hv]
      have:=eO.ofWin (H:=qS W) (t:=t) (xs:=xs.set i y') (b:=b) (off:=o0) (cap:=cap) (arr:=(arr.toList.take (o0 + (i * t.size + off))++ns.map (Cell.conc ρ)++arr.toList.drop (o0 + (i * t.size + off) + ns.length)).toArray) (T:=T') (fz:=(0,0)) (by rw [zV];exact q2) q3
       (lK.2 ⟨by rw [hW];exact setRow_heap w b _ _ T' _ hg,_,_,rfl⟩) (by rw [zV];exact hds)
      rwa [zV]at this)
     refine gM (w':=W) ?_ (hC ρ _ W hX (SV.conc_ofValue ρ undef).symm hp)
     rw [gh]at bB
     simp only [hv,gu,lp]at bB
     simp [execOp,Instr.storeAt,bB,fe,Instr.sureAddr,hr]
    ·cases h
  ·rename_i e t xs ns he re
   cases aA:(Nat.beq z t.size&&dw P T off t.size ns)with
   |false=>simp [aA]at h
   |true=>
    simp only [aA,cond_true]at h
    simp only [w3]at aA
    obtain⟨k1,k2⟩:=aA
    have:=q8 k1;subst this
    cases h
    have hi:i < xs.length:=by simpa using ba (decide (i < xs.length)) (by simp)
    have dC:=c.hE _ _ he
    have bB:=(c.evC hx).1
    obtain⟨fe,hyin⟩:=c.ev1 hy
    have hnin:=V1.cells?_inU hyin re
    obtain⟨hid0,hidu,_⟩:=c.hp.he _ _ dC
    obtain⟨ρ1,hX1,hm1,h1⟩:=c.hp.treeOpen dC (jZ (d:=de t) hi) (nid:=nid) (fun j hj=>aS j hj)
    have hns':off + ns.length≤t.size:=by
     unfold dw at k2
     split at k2
     ·simp only [w3]at k2;exact zJ k2.1.2
     ·cases k2
    obtain⟨g,cap,cur,hv,hg,fX,hX2,h2⟩:=h1.treeSet (id:=id) (e:=e) (t:=t) (xs:=xs) (k:=i) (hc:=bM t (xs[i]?.getD (de t)) nid) (by simp [ae,look?]) (ns:=ns) (off:=off) (fun c hc=>Cell.inU_mono aD (hnin c hc)) hns'
    have kH:ns.map (Cell.conc ρ1)=ns.map (Cell.conc ρ):=ch hX1.nm hnin
    rw [kH]at h2
    have hr:=gE (ρ:=ρ) (w:=w) (b:=g) (off:=i * t.size + off) (cur:=cur) k2 (fun h=>by omega) (V1.cells?_conc ρ re) hg
    obtain⟨W,hW⟩: ∃ W,W=w.setRow g (cur.toList.take (i * t.size + off)++ns.map (Cell.conc ρ)++cur.toList.drop (i * t.size + off + ns.length)).toArray:=⟨_,rfl⟩
    rw [← hW]at hr h2
    have hee:ae (ae s.ent ((id,Entry.tree e t xs (some (i,bM t (xs[i]?.getD (de t)) nid)))::dx t (xs[i]?.getD (de t)) nid)) [(id,.tree e t xs (some (i,(bM t (xs[i]?.getD (de t)) nid).take off++ns++(bM t (xs[i]?.getD (de t)) nid).drop (off + ns.length))))]=
      ae s.ent ((id,.tree e t xs (some (i,(bM t (xs[i]?.getD (de t)) nid).take off++ns++(bM t (xs[i]?.getD (de t)) nid).drop (off + ns.length))))::dx t (xs[i]?.getD (de t)) nid):=by
     funext j
     simp only [ae,look?]
     cases Nat.beq id j <;> rfl
    rw [hee]at h2
    refine gM (w':=W) ?_ (hC ρ1 _ W hX1 (SV.conc_ofValue ρ1 undef).symm h2)
    have hid1:ρ1 id=ρ id:=hX1.nm id hidu
    rw [hid1]at hv
    rw [gh]at bB
    simp only [hv,gu,lp,Nat.zero_add]at bB
    simp [execOp,Instr.storeAt,bB,fe,Instr.sureAddr,hr]
  ·cases h
 ·cases h
theorem jw(c:Ctx B ρ s a w look ent A): ∀ {xs:List Operand} {vs:List SV},evs look A xs=some vs→xs.map a.eval=vs.map (SV.conc ρ)∧ ∀ v∈vs,v.inU s.used
 | [],vs,h=>by simp [evs]at h;subst h;simp
 |x::xs,vs,h=>by
  simp only [evs]at h
  split at h
  ·rename_i v vs' h1 h2
   cases h
   obtain⟨e1,i1⟩:=c.ev h1
   obtain⟨e2,i2⟩:=jw c h2
   refine⟨by simp [e1,e2],fun u hu=> ?_⟩
   rcases List.mem_cons.1 hu with rfl | hu
   ·exact i1
   ·exact i2 u hu
  ·cases h
theorem rp: ∀ {vs:List SV} {ids:List Nat},uX vs=some ids→vs.map (SV.conc ρ)=ids.map fun id=>Value.pointer (some ⟨gu (ρ id),0,none⟩)
 | [],ids,h=>by simp [uX]at h;subst h;rfl
 |v::vs,ids,h=>by
  unfold uX at h
  split at h
  ·cases ‹v::vs= []›
  ·rename_i id r hY
   cases hY
   cases hq:uX vs with
   |none=>simp [hq]at h
   |some l=>simp [hq]at h;subst h;simp [rp hq,SV.conc,V1.conc,Cell.conc]
  ·cases h
theorem nO{ρ:Nm}: ∀ {cs:List Cell} {bs:List (Nat×Option Value)},tw cs=some bs→cs.map (Cell.conc ρ)=bs.map (bcV ρ)
 | [],bs,h=>by simp [tw]at h;subst h;rfl
 | .ref id::r,bs,h=>by
  simp only [tw,Option.map_eq_some_iff]at h
  obtain⟨l,hl,rfl⟩:=h
  rw [w9,w9,nO hl];rfl
 | .val v::r,bs,h=>by
  simp only [tw,Option.map_eq_some_iff]at h
  obtain⟨l,hl,rfl⟩:=h
  rw [w9,w9,nO hl];rfl
 | .ptr _ _::_,bs,h=>by cases h
 | .el _ _ _ _::_,bs,h=>by cases h
 | .vw _ _ _::_,bs,h=>by cases h
 | .clo _ _::_,bs,h=>by cases h
 | .bnd _ _::_,bs,h=>by cases h
theorem pf(c:Ctx B ρ s a w look ent A){fn:Fn}{first captured:Array Operand}(ho:o.op= .makeFunc fn first captured)(h:oh look A fn first captured=some r)(hC:be B s ρ r o a K):o.wp P a w K Q:=by
 obtain⟨dst,op,ty,pos,after,guard⟩:=o
 simp only at ho;subst ho
 unfold oh at h
 split at h
 ·rename_i f x hf rf
  have hfa:first= #[x]:=by rw [← w7 (xs:=first),hf]
  have hcv:=(jw c rf).1
  have hca:captured.map a.eval= #[]:=by
   have:(captured.map a.eval).toList= []:=by rw [Array.toList_map];exact hcv
   rw [← w7 (xs:=captured.map a.eval),this]
  split at h
  ·rename_i cs hx
   split at h
   ·rename_i bs hbs
    cases h
    have bB:=(c.ev hx).1
    have hr: ∀ w,(execOp a.eval ⟨dst,.makeFunc (.func f) first captured,ty,pos,after,guard⟩).run P w= .ok (.value (.func (.func f) #[.agg (bs.map (bcV ρ)).toArray] #[])) w:=fun w=>by
     simp only [execOp,Instr.makeFunc,hfa,hca,List.map_toArray,w9,List.map_nil,bB,SV.conc,V1.conc,nO hbs]
     rfl
    exact aa (hr w) (be.same (v:=one (.bnd f bs)) rfl hC c.hp)
   ·cases h
  ·cases h
 ·rename_i f vs hf rf
  have hfa:first= #[]:=by rw [← w7 (xs:=first),hf]
  have hcv:=(jw c rf).1
  have hca:captured.map a.eval=(vs.map (SV.conc ρ)).toArray:=by
   rw [← hcv,← w7 (xs:=captured.map a.eval),Array.toList_map]
  have hr: ∀ w,(execOp a.eval ⟨dst,.makeFunc (.func f) first captured,ty,pos,after,guard⟩).run P w= .ok (.value (.func (.func f) #[] (vs.map (SV.conc ρ)).toArray)) w:=fun w=>by
   simp [execOp,Instr.makeFunc,hfa,hca]
  split at h
  ·cases h
   exact aa (hr w) (be.same (v:=one (.val (.func (.func f) #[] #[]))) rfl hC c.hp)
  ·split at h
   ·rename_i ids hids
    cases h
    refine aa (hr w) ?_
    rw [rp hids]
    exact be.same (v:=one (.clo f ids)) rfl hC c.hp
   ·cases h
 ·cases h
theorem vV(c:Ctx B ρ s a w look ent A){x:Operand}(h:vok look A x=true):vof look A x=a.eval x:=by
 unfold vok at h
 unfold vof
 cases he:SX.ev look A x with
 |none=>simp [he]at h
 |some v=>
  simp only [he]at h
  cases ht:v.toValue? with
  |none=>simp [ht]at h
  |some u=>rw [(c.ev he).1,SV.toValue?_conc ρ ht];simp only [ht]
theorem ce(c:Ctx B ρ s a w look ent A)(hsel: ∀ cs b,o.op≠ .select cs b)(h:fF P look A o=some r)(hC:be B s ρ r o a K):o.wp P a w K Q:=by
 unfold fF at h
 cases jx:(fC o.op).all (vok look A)with
 |false=>simp [jx]at h
 |true=>
  simp only [jx,cond_true]at h
  have hcg:execOp a.eval o=execOp (vof look A) o:=execOp_congr o hsel fun x hx=>by
   have hm:=uS hx
   exact(vV c (List.all_eq_true.1 jx x hm)).symm
  split at h
  ·rename_i v hv
   cases h
   have hrun:=lr P _ _ hv w
   rw [← hcg]at hrun
   refine aa hrun ?_
   have:=be.same (v:= .ofValue v) rfl hC c.hp
   rwa [SV.conc_ofValue]at this
  ·cases h
end
end Go.SX
