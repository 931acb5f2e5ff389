import Derived.WalkKit
import Derived.KernelRfl
import Derived.Laws.AppendOwn
import Derived.Laws.MakeOwn
import Derived.Laws.OwnMore
import Derived.ArgAppend
set_option linter.unusedSimpArgs false
set_option linter.unusedVariables false
namespace Go.SX
open Go.RowKit
inductive CTy where
 |int (k:IntKind)
 |bool
 |str
 |pair (a b:CTy)
 |sl (e:TypeId) (t:CTy)
 deriving DecidableEq
def E:CTy→Type
 | .int _=>Int
 | .bool=>Bool
 | .str=>ByteArray
 | .pair a b=>E a×E b
 | .sl _ t=>List (E t)
def CTy.size:CTy→Nat
 | .pair a b=>a.size + b.size
 |_=>1
structure GEnt where
 g:Nat
 T:TypeId
 e:TypeId
 t:CTy
 xs:List (E t)
def ado:List ByteArray:= [⟨#[112,114,111,103,114,97,109]⟩,⟨#[105,110]⟩,⟨#[118,97,114]⟩,⟨#[111,117,116]⟩,⟨#[103,117,97,114,100]⟩,⟨#[101,110,100]⟩,⟨#[97,110,100]⟩,⟨#[111,114]⟩,⟨#[110,111,116]⟩,⟨#[116,114,117,101]⟩,⟨#[102,97,108,115,101]⟩,⟨#[111,110]⟩,⟨#[111,102,102]⟩,⟨#[114,105,115,101]⟩,⟨#[108,97,116,99,104]⟩,⟨#[99,111,117,110,116]⟩,⟨#[112,97,105,114]⟩]
def GT:List GEnt:= [⟨0,279,9,.str,ado⟩]
end Go.SX
namespace Go.SX
open Go.RowKit
def XD(P:Program){α:Type}:Sem α→Option α
 | .pure a=>some a
 | .program k=>XD P (k P)
 | .mark _ k=>XD P k
 |_=>none
theorem adi(P:Program){α:Type}: ∀ (s:Sem α) (v:α),XD P s=some v→ ∀ w,s.run P w= .ok v w
 | .pure a,v,h,w=>by simp [XD]at h;subst h;rfl
 | .program k,v,h,w=>by simp only [XD]at h;simp only [Sem.run];exact adi P _ v h w
 | .mark _ k,v,h,w=>by simp only [XD]at h;simp only [Sem.run];exact adi P _ v h w
 | .load ..,v,h,w | .store ..,v,h,w | .new ..,v,h,w | .shape ..,v,h,w | .freeze ..,v,h,w | .frozen ..,v,h,w | .getObj ..,v,h,w
 | .setObj ..,v,h,w | .choose ..,v,h,w | .sys ..,v,h,w | .halt _,v,h,w=>by simp [XD]at h
def CTy.flat:CTy→Bool
 | .pair a b=>a.flat&&b.flat
 | .sl _ _=>false
 |_=>true
def xE:(t:CTy)→E t
 | .int _=>(0:Int)
 | .bool=>false
 | .str=>ByteArray.empty
 | .pair a b=>(xE a,xE b)
 | .sl _ _=> []
def ahK:(t:CTy)→E t→List Value
 | .int k,x=> [.int k x]
 | .bool,b=> [.bool b]
 | .str,s=> [.string s]
 | .pair a b,p=>ahK a p.1++ahK b p.2
 | .sl _ _,_=> [undef]
def aeS(v:Value):Prop:=v= .slice none 0 0∨ ∃ a,v= .slice (some a) 0 0
def aok{α:Type}(p:List Value→α→Prop)(z:Nat)(H:Nat→Option Obj)(v:Value)(xs:List α):Prop:=
 (aeS v∧xs= [])∨
 ∃ b off cap arr T fz,v= .slice (some ⟨b,off,none⟩) xs.length cap∧xs.length≤cap∧cap≤maxLen∧H b=some (.cells arr T fz)∧(∀ i x,xs[i]? =some x→p ((arr.toList.drop (off + i * z)).take z) x)
theorem aok.mono{α:Type}{p p':List Value→α→Prop}{z:Nat}{H H':Nat→Option Obj}(hp: ∀ cs x,p cs x→p' cs x)(h: ∀ b o,H b=some o→H' b=some o){v:Value}{xs:List α}(hr:aok p z H v xs):aok p' z H' v xs:=
 hr.imp id fun⟨b,off,cap,arr,T,fz,h1,h2,h3,h4,h5⟩=>⟨b,off,cap,arr,T,fz,h1,h2,h3,h _ _ h4,fun i x hx=>hp _ _ (h5 i x hx)⟩
def Rep(H:Nat→Option Obj):(t:CTy)→List Value→E t→Prop
 | .int k,cs,(x:Int)=>cs= [.int k x]
 | .bool,cs,(b:Bool)=>cs= [.bool b]
 | .str,cs,(s:ByteArray)=>cs= [.string s]
 | .pair a b,cs,(p:E a×E b)=> ∃ c1 c2,cs=c1++c2∧Rep H a c1 p.1∧Rep H b c2 p.2
 | .sl _ t,cs,(xs:List (E t))=> ∃ v,cs= [v]∧aok (Rep H t) t.size H v xs
theorem Rep.mono{H H':Nat→Option Obj}(h: ∀ b o,H b=some o→H' b=some o): ∀ (t:CTy) (cs:List Value) (x:E t),Rep H t cs x→Rep H' t cs x
 | .int _,_,_,hr=>by simp only [Rep]at hr ⊢;exact hr
 | .bool,_,_,hr=>by simp only [Rep]at hr ⊢;exact hr
 | .str,_,_,hr=>by simp only [Rep]at hr ⊢;exact hr
 | .pair a b,_,_,hr=>by
  simp only [Rep]at hr ⊢
  obtain⟨c1,c2,e,h1,h2⟩:=hr
  exact⟨c1,c2,e,Rep.mono h a _ _ h1,Rep.mono h b _ _ h2⟩
 | .sl _ t,_,_,hr=>by
  simp only [Rep]at hr ⊢
  obtain⟨v,e,hv⟩:=hr
  exact⟨v,e,hv.mono (Rep.mono h t) h⟩
def NO(H:Nat→Option Obj)(t:CTy)(v:Value)(xs:List (E t)):Prop:=aok (Rep H t) t.size H v xs
theorem NO.mono{H H':Nat→Option Obj}(h: ∀ b o,H b=some o→H' b=some o){t:CTy}{v:Value}{xs:List (E t)}(hr:NO H t v xs):NO H' t v xs:=
 aok.mono (Rep.mono h t) h hr
theorem Rep.flat{H:Nat→Option Obj}: ∀ (t:CTy) (cs:List Value) (x:E t),t.flat=true→Rep H t cs x→cs=ahK t x
 | .int _,_,_,_,h=>by simp only [Rep]at h;exact h
 | .bool,_,_,_,h=>by simp only [Rep]at h;exact h
 | .str,_,_,_,h=>by simp only [Rep]at h;exact h
 | .pair a b,_,_,hf,h=>by
  simp only [Rep]at h
  obtain⟨c1,c2,e,h1,h2⟩:=h
  simp only [CTy.flat,Bool.and_eq_true]at hf
  rw [e,Rep.flat a _ _ hf.1 h1,Rep.flat b _ _ hf.2 h2];rfl
 | .sl _ _,_,_,hf,_=>by cases hf
theorem Rep.of_flat{H:Nat→Option Obj}: ∀ (t:CTy) (x:E t),t.flat=true→Rep H t (ahK t x) x
 | .int _,_,_=>by simp only [Rep];rfl
 | .bool,_,_=>by simp only [Rep];rfl
 | .str,_,_=>by simp only [Rep];rfl
 | .pair a b,p,hf=>by
  simp only [CTy.flat,Bool.and_eq_true]at hf
  simp only [Rep]
  exact⟨_,_,rfl,Rep.of_flat a p.1 hf.1,Rep.of_flat b p.2 hf.2⟩
 | .sl _ _,_,hf=>by cases hf
def GlOk(mem:Nat→Option Obj):Prop:= ∀ x∈GT,x.xs.length≤maxLen∧ ∃ arr T fz,mem x.g=some (.cells arr T fz)∧ ∀ i y,x.xs[i]? =some y→Rep mem x.t ((arr.toList.drop (i * x.t.size)).take x.t.size) y
theorem GlOk.mono{H H':Nat→Option Obj}(h: ∀ b o,H b=some o→H' b=some o)(hg:GlOk H):GlOk H':=fun x hx=>
 let ⟨h0,arr,T,fz,h1,h2⟩:=hg x hx
 ⟨h0,arr,T,fz,h _ _ h1,fun i y hy=>Rep.mono h _ _ _ (h2 i y hy)⟩
structure Nm where
 nm:Nat→Value
 mem:Nat→Option Obj
 fp:Nat→List Nat
def HP:Value→Value
 | .slice a n c=> .slice a n c
 | .pointer a=> .pointer a
 |_=> .slice none 0 0
def Nm.of(ρ:Nm)(i:Nat):Value:=HP (ρ.nm i)
instance:CoeFun Nm (fun _=>Nat→Value):=⟨Nm.of⟩
theorem Qm(v:Value):HP (HP v)=HP v:=by cases v <;> rfl
theorem an5(v:Value):(HP v).oneCell'=true:=by cases v <;> rfl
theorem akQ(v:Value):(HP v).cells= #[HP v]:=by cases v <;> rfl
def TG:Value→Nat
 | .pointer (some a)=>a.block
 | .slice (some a) _ _=>a.block
 |_=>0
def afE:Value→Nat
 | .slice (some a) _ _=>a.off
 |_=>0
def lj:Value→List Nat
 | .pointer (some a)=> [a.block]
 | .slice (some a) _ c=>bif Nat.beq c 0 then []else [a.block]
 |_=> []
theorem alD{v:Value}(h:aeS v):lj v= []:=by
 rcases h with rfl | ⟨b,rfl⟩ <;> rfl
theorem xS{a:Addr}{n c:Nat}(h:0 < c):lj (.slice (some a) n c)= [a.block]:=by
 cases c with
 |zero=>omega
 |succ c=>rfl
inductive Cell where
 |val (v:Value)
 |ptr (id off:Nat)
 |ref (id:Nat)
 |el (id z i off:Nat)
 |vw (id z k:Nat)
 |clo (f:FuncId) (caps:List Nat)
 |bnd (f:FuncId) (vs:List (Nat×Option Value))
def vwN(z k:Nat):Value→Value
 | .slice b n c=>if z=0 then .slice b k c else .slice (if c=k then b else b.map (·.add (k * z))) (n - k) (c - k)
 |v=>v
def bcV(ρ:Nm):Nat×Option Value→Value
 |(id,none)=>ρ id
 |(_,some v)=>v
def Yr:List (Nat×Option Value)→List Nat
 | []=> []
 |(id,none)::r=>id::Yr r
 |(_,some _)::r=>Yr r
theorem ahH{ρ ρ':Nm}: ∀ {vs:List (Nat×Option Value)},(∀ id∈Yr vs,ρ' id=ρ id)→vs.map (bcV ρ')=vs.map (bcV ρ)
 | [],_=>rfl
 |(id,none)::r,h=>by
  rw [List.map_cons,List.map_cons,ahH (vs:=r) fun i hi=>h i (List.mem_cons_of_mem _ hi)]
  simp only [bcV,h id (List.mem_cons_self ..)]
 |(id,some v)::r,h=>by
  rw [List.map_cons,List.map_cons,ahH (vs:=r) fun i hi=>h i hi]
  rfl
def Cell.conc(ρ:Nm):Cell→Value
 | .val v=>v
 | .ptr id off=> .pointer (some ⟨TG (ρ id),off,none⟩)
 | .ref id=>ρ id
 | .el id z i off=> .pointer (some ⟨TG (ρ id),afE (ρ id) + (i * z + off),none⟩)
 | .vw id z k=>HP (vwN z k (ρ id))
 | .clo f caps=> .func (.func f) #[] (caps.map fun id=>Value.pointer (some ⟨TG (ρ id),0,none⟩)).toArray
 | .bnd f vs=> .func (.func f) #[.agg (vs.map (bcV ρ)).toArray] #[]
def Cell.inU(U:Nat→Bool):Cell→Prop
 | .val _=>True
 | .ptr id _=>U id=true
 | .ref id=>U id=true
 | .el id _ _ _=>U id=true
 | .vw id _ _=>U id=true
 | .clo _ caps=> ∀ id∈caps,U id=true
 | .bnd _ vs=> ∀ id∈Yr vs,U id=true
theorem Cell.conc_congr{ρ ρ':Nm}{U:Nat→Bool}(h: ∀ id,U id=true→ρ' id=ρ id){c:Cell}(hc:c.inU U):c.conc ρ'=c.conc ρ:=by
 cases c with
 |val v=>rfl
 |ptr id off=>simp only [Cell.conc];rw [h id hc]
 |ref id=>exact h id hc
 |el id z i off=>simp only [Cell.conc];rw [h id hc]
 |vw id z k=>simp only [Cell.conc];rw [h id hc]
 |clo f caps=>
  simp only [Cell.conc]
  rw [List.map_congr_left fun id lI=>by rw [h id (hc id lI)]]
 |bnd f vs=>
  simp only [Cell.conc]
  rw [ahH fun id lI=>h id (hc id lI)]
theorem Cell.inU_mono{U U':Nat→Bool}(h: ∀ id,U id=true→U' id=true){c:Cell}(hc:c.inU U):c.inU U':=by
 cases c with
 |val v=>trivial
 |ptr id off=>exact h id hc
 |ref id=>exact h id hc
 |el id z i off=>exact h id hc
 |vw id z k=>exact h id hc
 |clo f caps=>exact fun id lI=>h id (hc id lI)
 |bnd f vs=>exact fun id lI=>h id (hc id lI)
structure V1 where
 agg:Bool
 cs:List Cell
def V1.conc(ρ:Nm)(v:V1):Value:=
 match v.agg,v.cs with
 |true,cs=> .agg (cs.map (Cell.conc ρ)).toArray
 |false,[c]=>c.conc ρ
 |false,_=>undef
def V1.inU(U:Nat→Bool)(v:V1):Prop:= ∀ c∈v.cs,c.inU U
theorem wb{ρ ρ':Nm}{U:Nat→Bool}(h: ∀ id,U id=true→ρ' id=ρ id){cs:List Cell}(hc: ∀ c∈cs,c.inU U):cs.map (Cell.conc ρ')=cs.map (Cell.conc ρ):=
 List.map_congr_left fun c hm=>Cell.conc_congr h (hc c hm)
theorem V1.conc_congr{ρ ρ':Nm}{U:Nat→Bool}(h: ∀ id,U id=true→ρ' id=ρ id){v:V1}(hc:v.inU U):v.conc ρ'=v.conc ρ:=by
 obtain⟨g,cs⟩:=v
 cases g with
 |true=>simp only [V1.conc];rw [wb h hc]
 |false=>
  match cs,hc with
  | [],_=>rfl
  | [c],hc=>exact Cell.conc_congr h (hc c (by simp))
  |_::_::_,_=>rfl
inductive SV where
 |one (v:V1)
 |tup (vs:List V1)
def SV.conc(ρ:Nm):SV→Value
 | .one v=>v.conc ρ
 | .tup vs=> .tuple (vs.map (V1.conc ρ)).toArray
def SV.inU(U:Nat→Bool):SV→Prop
 | .one v=>v.inU U
 | .tup vs=> ∀ v∈vs,v.inU U
theorem SV.conc_congr{ρ ρ':Nm}{U:Nat→Bool}(h: ∀ id,U id=true→ρ' id=ρ id){v:SV}(hc:v.inU U):v.conc ρ'=v.conc ρ:=by
 cases v with
 |one v=>exact V1.conc_congr h hc
 |tup vs=>simp only [SV.conc];rw [List.map_congr_left fun v hv=>V1.conc_congr h (hc v hv)]
theorem V1.inU_mono{U U':Nat→Bool}(h: ∀ id,U id=true→U' id=true){v:V1}(hc:v.inU U):v.inU U':=fun c hm=>Cell.inU_mono h (hc c hm)
theorem SV.inU_mono{U U':Nat→Bool}(h: ∀ id,U id=true→U' id=true){v:SV}(hc:v.inU U):v.inU U':=by
 cases v with
 |one v=>exact V1.inU_mono h hc
 |tup vs=>exact fun v hv=>V1.inU_mono h (hc v hv)
def V1.ofValue:Value→V1
 | .agg a=>⟨true,a.toList.map .val⟩
 |v=>⟨false,[.val v]⟩
def SV.ofValue:Value→SV
 | .tuple a=> .tup (a.toList.map V1.ofValue)
 |v=> .one (V1.ofValue v)
theorem V1.conc_ofValue(ρ:Nm)(v:Value):(V1.ofValue v).conc ρ=v:=by
 cases v with
 |agg a=>
  simp only [V1.ofValue,V1.conc,List.map_map]
  congr 1
  rw [show (Cell.conc ρ ∘ Cell.val)=id from rfl,List.map_id]
 |_=>rfl
theorem V1.ofValue_inU(U:Nat→Bool)(v:Value):(V1.ofValue v).inU U:=by
 cases v with
 |agg a=>intro c hc;simp only [V1.ofValue,List.mem_map]at hc;obtain⟨x,_,rfl⟩:=hc;trivial
 |_=>intro c hc;simp only [V1.ofValue,List.mem_singleton]at hc;subst hc;trivial
theorem SV.conc_ofValue(ρ:Nm)(v:Value):(SV.ofValue v).conc ρ=v:=by
 cases v with
 |tuple a=>
  simp only [SV.ofValue,SV.conc,List.map_map]
  congr 1
  rw [show (V1.conc ρ ∘ V1.ofValue)=id from funext fun v=>V1.conc_ofValue ρ v,List.map_id]
 |_=>simp only [SV.ofValue,SV.conc];exact V1.conc_ofValue ρ _
theorem SV.ofValue_inU(U:Nat→Bool)(v:Value):(SV.ofValue v).inU U:=by
 cases v with
 |tuple a=>intro u hu;simp only [List.mem_map]at hu;obtain⟨x,_,rfl⟩:=hu;exact V1.ofValue_inU U x
 |_=>simp only [SV.ofValue,SV.inU];exact V1.ofValue_inU U _
def Cell.toValue? :Cell→Option Value
 | .val v=>some v
 |_=>none
def aah:List Cell→Option (List Value)
 | []=>some []
 |c::cs=>match c.toValue?,aah cs with
  |some v,some vs=>some (v::vs)
  |_,_=>none
theorem Va(ρ:Nm): ∀ {cs:List Cell} {vs:List Value},aah cs=some vs→cs.map (Cell.conc ρ)=vs
 | [],vs,h=>by simp [aah]at h;simp [h]
 |c::cs,vs,h=>by
  simp only [aah]at h
  split at h
  ·rename_i v vs' hv hvs
   cases h
   simp only [List.map_cons,Va ρ hvs]
   cases c with
   |val u=>simp [Cell.toValue?]at hv;simp [Cell.conc,hv]
   |_=>simp [Cell.toValue?]at hv
  ·cases h
def V1.toValue?(v:V1):Option Value:=
 match v.agg,v.cs with
 |true,cs=>(aah cs).map fun vs=> .agg vs.toArray
 |false,[.val v]=>some v
 |_,_=>none
theorem V1.toValue?_conc(ρ:Nm){v:V1}{x:Value}(h:v.toValue? =some x):v.conc ρ=x:=by
 obtain⟨g,cs⟩:=v
 simp only [V1.toValue?]at h
 split at h
 ·cases hv:aah cs with
  |none=>simp [hv]at h
  |some vs=>simp [hv]at h;subst h;simp only [V1.conc,Va ρ hv]
 ·cases h;rfl
 ·cases h
def SV.toValue? :SV→Option Value
 | .one v=>v.toValue?
 | .tup _=>none
theorem SV.toValue?_conc(ρ:Nm){v:SV}{x:Value}(h:v.toValue? =some x):v.conc ρ=x:=by
 cases v with
 |one v=>exact V1.toValue?_conc ρ h
 |tup vs=>simp [SV.toValue?]at h
structure SS where
 g:Option (Nat×Bool)
 v:SV
def yl(tmps:Array Value)(j:Nat):Option Bool:=
 match tmps[j]? with
 |some (.bool b)=>some b
 |_=>none
def SS.at(ρ:Nm)(tmps:Array Value)(x:SS):Value:=
 match x.g with
 |none=>x.v.conc ρ
 |some (j,b)=>if yl tmps j=some b then x.v.conc ρ else undef
inductive Entry where
 |box (T:TypeId) (cs:List Cell)
 |row (own:Bool) (e:TypeId) (t:CTy) (xs:List (E t))
 |tree (e:TypeId) (t:CTy) (xs:List (E t)) (hole:Option (Nat×List Cell))
 |gone
structure St where
 look:Nat→Option SS
 ent:Nat→Option Entry
 used:Nat→Bool
 wr:Nat→Bool
 next:Nat
 log:List Nat
 logE:List Nat
structure Base where
 n:Nat
 w0:World
 mem:Nat→Option Obj
 sl:Nat→Option Value
 W:Nat→Bool
 hW: ∀ k,W k=true→k < n∧sl k=none
def qm(H:Nat→Option Obj)(t:CTy)(cs:List Value)(xs:List (E t)):Prop:=cs.length=xs.length * t.size∧ ∀ i x,xs[i]? =some x→Rep H t ((cs.drop (i * t.size)).take t.size) x
theorem qm.mono{H H':Nat→Option Obj}(h: ∀ b o,H b=some o→H' b=some o){t:CTy}{cs:List Value}{xs:List (E t)}(hr:qm H t cs xs):qm H' t cs xs:=
 ⟨hr.1,fun i x hx=>Rep.mono h _ _ _ (hr.2 i x hx)⟩
def Gl(w:World)(e:TypeId)(z:Nat)(v:Value)(n:Nat)(cs:List Value):Prop:=cs.length=n * z∧((aeS v∧n=0)∨ ∃ g cap cur,v= .slice (some ⟨g,0,none⟩) n cap∧0 < cap∧w.heap[g]? =some (.cells cur e (0,0))∧n≤cap∧cap≤maxLen∧cur.size=cap * z∧cur.toList.take (n * z)=cs)
theorem Tk{w:World}{base:Nat}{e:TypeId}{z:Nat}{v:Value}{n:Nat}{cs:List Value}(h:w.ownsRow base e z v n cs):Gl w e z v n cs:=by
 refine⟨h.1,?_⟩
 rcases h.2 with⟨h1,h2⟩ | ⟨g,cap,cur,h1,_,h2,h3,h4,h5,h6⟩
 ·exact .inl ⟨.inl h1,h2⟩
 ·by_cases hc:cap=0
  ·subst hc
   have:n=0:=by omega
   subst this
   exact .inl ⟨.inr ⟨_,h1⟩,rfl⟩
  ·exact .inr ⟨g,cap,cur,h1,by omega,h2,h3,h4,h5,h6⟩
theorem apK{w:World}{e:TypeId}{z:Nat}{v:Value}{n:Nat}{cs:List Value}(h:Gl w e z v n cs):(aeS v∧n=0∧cs= [])∨(w.ownsRow 0 e z v n cs∧ ∃ g cap,v= .slice (some ⟨g,0,none⟩) n cap∧0 < cap):=by
 rcases h.2 with⟨h1,h2⟩ | ⟨g,cap,cur,h1,h0,h2,h3,h4,h5,h6⟩
 ·refine .inl ⟨h1,h2,List.length_eq_zero_iff.1 ?_⟩
  rw [h.1,h2,Nat.zero_mul]
 ·exact .inr ⟨⟨h.1,.inr ⟨g,cap,cur,h1,Nat.zero_le _,h2,h3,h4,h5,h6⟩⟩,g,cap,h1,h0⟩
theorem ZC(w:World)(e:TypeId)(z:Nat):Gl w e z (.slice none 0 0) 0 []:=⟨by simp,.inl ⟨.inl rfl,rfl⟩⟩
def zO(w:World):(t:CTy)→List Value→E t→List Nat→Prop
 | .int k,cs,(x:Int),L=>cs= [.int k x]∧L= []
 | .bool,cs,(b:Bool),L=>cs= [.bool b]∧L= []
 | .str,cs,(s:ByteArray),L=>cs= [.string s]∧L= []
 | .pair a b,cs,(p:E a×E b),L=> ∃ c1 c2 L1 L2,cs=c1++c2∧L=L1++L2∧zO w a c1 p.1 L1∧zO w b c2 p.2 L2∧ ∀ k∈L1,k∉L2
 | .sl e t,cs,(xs:List (E t)),L=> ∃ v ds,cs= [v]∧L=lj v∧t.flat=true∧Gl w e t.size v xs.length ds∧qm (fun _=>none) t ds xs
def VA(w:World)(ρ:Nm)(t:CTy)(cs:List Value)(xs:List (E t))(Ls:List (List Nat))(h:Option (Nat×List Cell)):Prop:=Ls.length=xs.length∧(∀ k hc,h=some (k,hc)→k < xs.length∧Ls[k]? =some []∧(cs.drop (k * t.size)).take t.size=hc.map (Cell.conc ρ))∧(∀ i x l,(∀ k hc,h=some (k,hc)→i≠k)→xs[i]? =some x→Ls[i]? =some l→zO w t ((cs.drop (i * t.size)).take t.size) x l)∧(∀ (i j:Nat) l l' k,Ls[i]? =some l→Ls[j]? =some l'→k∈l→k∈l'→i=j)
def sL{α:Type}:List (List α)→List α
 | []=> []
 |a::r=>a++sL r
theorem rC{α:Type}{i:α}: ∀ {l:List (List α)},i∈sL l↔ ∃ (k:Nat) (x:List α),l[k]? =some x∧i∈x
 | []=>by simp [sL]
 |a::r=>by
  simp only [sL,List.mem_append,rC (l:=r)]
  constructor
  ·rintro(h | ⟨k,x,h1,h2⟩)
   ·exact⟨0,a,rfl,h⟩
   ·exact⟨k + 1,x,h1,h2⟩
  ·rintro⟨k,x,h1,h2⟩
   cases k with
   |zero=>simp at h1;subst h1;exact .inl h2
   |succ k=>exact .inr ⟨k,x,h1,h2⟩
def Entry.holds(B:Base)(ρ:Nm)(w:World)(id:Nat):Entry→Prop
 | .box T cs=> ∃ b,ρ id= .pointer (some ⟨b,0,none⟩)∧w.heap[b]? =some (.cells (cs.map (Cell.conc ρ)).toArray T (0,0))∧B.mem b=none∧ρ.mem b=none
 | .row false _ t xs=>NO ρ.mem t (ρ id) xs
 | .row true e t xs=> ∃ cs,Gl w e t.size (ρ id) xs.length cs∧qm ρ.mem t cs xs∧ ∀ b∈lj (ρ id),B.mem b=none∧ρ.mem b=none
 | .tree e t xs h=> ∃ cs Ls,Gl w e t.size (ρ id) xs.length cs∧VA w ρ t cs xs Ls h∧ρ.fp id=sL Ls∧(∀ b∈lj (ρ id),b∉ρ.fp id)∧ ∀ b∈lj (ρ id)++ρ.fp id,B.mem b=none∧ρ.mem b=none
 | .gone=>True
def Entry.ob(ρ:Nm)(id:Nat):Entry→List Nat
 | .box _ _=>lj (ρ id)
 | .row true _ _ _=>lj (ρ id)
 | .tree _ _ _ _=>lj (ρ id)++ρ.fp id
 |_=> []
def Entry.inU(U:Nat→Bool):Entry→Prop
 | .box _ cs=> ∀ c∈cs,c.inU U
 | .tree _ _ _ (some (_,cs))=> ∀ c∈cs,c.inU U
 |_=>True
structure Frm (B:Base) (ρ:Nm) (w:World):Prop where
 os:w.os=B.w0.os
 tape:w.tape=B.w0.tape
 output:w.output=B.w0.output
 size:B.w0.heap.size≤w.heap.size
 mem: ∀ b o,B.mem b=some o→w.heap[b]? =some o
 dat: ∀ b o,ρ.mem b=some o→w.heap[b]? =some o
 gl:GlOk ρ.mem
structure Ext (B:Base) (U:Nat→Bool) (ρ ρ':Nm):Prop where
 nm: ∀ id,U id=true→ρ' id=ρ id
 old: ∀ b o,ρ.mem b=some o→ρ'.mem b=some o
 new: ∀ b o,ρ'.mem b=some o→ρ.mem b=some o∨B.mem b=none
theorem Ext.refl(B:Base)(U:Nat→Bool)(ρ:Nm):Ext B U ρ ρ:=⟨fun _ _=>rfl,fun _ _ h=>h,fun _ _ h=> .inl h⟩
theorem Ext.trans{B:Base}{U U':Nat→Bool}{ρ ρ' ρ'':Nm}(h:Ext B U ρ ρ')(h':Ext B U' ρ' ρ'')(hU: ∀ id,U id=true→U' id=true):Ext B U ρ ρ'':=
 ⟨fun id lI=>(h'.nm id (hU id lI)).trans (h.nm id lI),fun b o hb=>h'.old b o (h.old b o hb),fun b o hb=>(h'.new b o hb).elim (h.new b o) .inr⟩
theorem Ext.sub{B:Base}{U U':Nat→Bool}{ρ ρ':Nm}(h:Ext B U' ρ ρ')(hU: ∀ id,U id=true→U' id=true):Ext B U ρ ρ':=
 ⟨fun id lI=>h.nm id (hU id lI),h.old,h.new⟩
structure Hp (B:Base) (ρ:Nm) (ent:Nat→Option Entry) (used:Nat→Bool) (w:World):Prop where
 he: ∀ id e,ent id=some e→e.holds B ρ w id∧used id=true∧e.inU used
 hi: ∀ id id' e e' b,ent id=some e→ent id'=some e'→b∈e.ob ρ id→b∈e'.ob ρ id'→id=id'
 hf:Frm B ρ w
structure Mdl (B:Base) (ρ:Nm) (s:St) (a:Act) (w:World):Prop where
 hd:a.defers= []
 hn:a.tmps.size=B.n
 hs: ∀ k x,s.look k=some x→a.tmps[k]? =some (x.at ρ a.tmps)
 hg: ∀ k x j b,s.look k=some x→x.g=some (j,b)→s.wr j=true
 hu: ∀ k x,s.look k=some x→x.v.inU s.used
 hp:Hp B ρ s.ent s.used w
 hl: ∀ k v,B.sl k=some v→a.tmps[k]? =some v
theorem asq{a:Act}{k:Nat}{v:Value}{j:Nat}(h:j≠k):yl (a.put (some k) v).tmps j=yl a.tmps j:=by
 simp only [yl,Act.put,Array.getElem?_setIfInBounds_ne (Ne.symm h)]
theorem SS.at_congr{ρ ρ':Nm}{U:Nat→Bool}{t t':Array Value}{x:SS}(h: ∀ id,U id=true→ρ' id=ρ id)(hc:x.v.inU U)(hy: ∀ j b,x.g=some (j,b)→yl t' j=yl t j):x.at ρ' t'=x.at ρ t:=by
 obtain⟨g,v⟩:=x
 cases g with
 |none=>exact SV.conc_congr h hc
 |some p=>obtain⟨j,b⟩:=p;simp only [SS.at,hy j b rfl,SV.conc_congr h hc]
end Go.SX
namespace Go.SX
open Go.RowKit
theorem Mdl.he{B:Base}{ρ:Nm}{s:St}{a:Act}{w:World}(h:Mdl B ρ s a w): ∀ id e,s.ent id=some e→e.holds B ρ w id∧s.used id=true∧e.inU s.used:=h.hp.he
def memB(w0:World)(mem:Nat→Option Obj):Base:=⟨0,w0,mem,fun _=>none,fun _=>false,fun _ h=>by cases h⟩
def HpL(w0:World)(mem:Nat→Option Obj)(es:List Entry)(ρ:Nm)(w:World):Prop:=Hp (memB w0 mem) ρ (fun i=>es[i]?) (fun i=>Nat.blt i es.length) w
structure Out where
 res:SV
 es:List Entry
 new:List Entry
 nd:List Bool
structure PF (P:Program) where
 k:FuncId
 F:List SV→List Entry→Option Out
 ok: ∀ args es o,F args es=some o→(∀ b∈o.nd,b=true)→ ∀ (mem:Nat→Option Obj) (ρ:Nm) (w:World),HpL w mem es ρ w→
  Calls P k (args.map (SV.conc ρ)).toArray w fun e w'=> ∃ ρ':Nm,Ext (memB w mem) (fun i=>Nat.blt i es.length) ρ ρ'∧e= .returned (o.res.conc ρ')∧o.es.length=es.length∧
   o.res.inU (fun i=>Nat.blt i (o.es++o.new).length)∧HpL w mem (o.es++o.new) ρ' w'
 keep:List Nat:= []
 hk: ∀ args es o,F args es=some o→(∀ b∈o.nd,b=true)→ ∀ i∈keep,o.es[i]? =es[i]? :=by intro _ _ _ _ _ _ h;cases h
def PF.mark(P:Program):PF P where
 k:=999999
 F:=fun _ _=>none
 ok:=fun _ _ _ h=>by cases h
def PF.marked{P:Program}:List (PF P)→Bool
 | []=>false
 |p::_=>Nat.beq p.k 999999
def PF.treed{P:Program}:List (PF P)→Bool
 | []=>false
 |p::r=>Nat.beq p.k 999998||(Nat.beq p.k 999999&&(match r with | q::_=>Nat.beq q.k 999998 | []=>false))
def PF.take(P:Program):PF P where
 k:=999995
 F:=fun _ _=>none
 ok:=fun _ _ _ h=>by cases h
def PF.takes{P:Program}:List (PF P)→Bool
 |_::q::_=>Nat.beq q.k 999995
 |_=>false
def aam{P:Program}:List (PF P)→FuncId→List SV→List Entry→Option (Out×List Nat)
 | [],_,_,_=>none
 |p::r,k,args,es=>bif Nat.beq p.k k then(match p.F args es with | some o=>some (o,p.keep) | none=>aam r k args es)else aam r k args es
theorem ahJ{P:Program}: ∀ {l:List (PF P)} {k:FuncId} {args:List SV} {es:List Entry} {o:Out} {kp:List Nat},aam l k args es=some (o,kp)→(∀ b∈o.nd,b=true)→ ∀ (mem:Nat→Option Obj) (ρ:Nm) (w:World),HpL w mem es ρ w→
  Calls P k (args.map (SV.conc ρ)).toArray w fun e w'=> ∃ ρ':Nm,Ext (memB w mem) (fun i=>Nat.blt i es.length) ρ ρ'∧e= .returned (o.res.conc ρ')∧o.es.length=es.length∧
   o.res.inU (fun i=>Nat.blt i (o.es++o.new).length)∧HpL w mem (o.es++o.new) ρ' w'
 | [],k,args,es,o,kp,h=>by simp [aam]at h
 |p::r,k,args,es,o,kp,h=>by
  simp only [aam]at h
  cases hq:Nat.beq p.k k with
  |true=>
   simp only [hq,cond_true]at h
   have hk:=Nat.eq_of_beq_eq_true hq
   split at h
   ·rename_i o' ho'
    cases h
    subst hk
    exact p.ok _ _ _ ho'
   ·exact ahJ h
  |false=>simp only [hq,cond_false]at h;exact ahJ h
theorem acJ{P:Program}: ∀ {l:List (PF P)} {k:FuncId} {args:List SV} {es:List Entry} {o:Out} {kp:List Nat},aam l k args es=some (o,kp)→(∀ b∈o.nd,b=true)→ ∀ i∈kp,o.es[i]? =es[i]?
 | [],k,args,es,o,kp,h=>by simp [aam]at h
 |p::r,k,args,es,o,kp,h=>by
  simp only [aam]at h
  cases hq:Nat.beq p.k k with
  |true=>
   simp only [hq,cond_true]at h
   split at h
   ·rename_i o' ho'
    cases h
    exact p.hk _ _ _ ho'
   ·exact acJ h
  |false=>simp only [hq,cond_false]at h;exact acJ h
def look?{α:Type}:List (Nat×α)→Nat→Option α
 | [],_=>none
 |p::r,k=>bif Nat.beq p.1 k then some p.2 else look? r k
def memN:List Nat→Nat→Bool
 | [],_=>false
 |p::r,k=>bif Nat.beq p k then true else memN r k
structure Raw where
 v:SV
 es:List (Nat×Entry)
 new:List Nat
 nd:List Bool
def bG(ent:Nat→Option Entry)(es:List (Nat×Entry)):Nat→Option Entry:=fun i=>match look? es i with | some e=>some e | none=>ent i
def dg(used:Nat→Bool)(new:List Nat):Nat→Bool:=fun i=>bif memN new i then true else used i
def ev(look:Nat→Option SS)(A:List (Nat×Bool)):Operand→Option SV
 | .tmp t=>match look t with
  |some ⟨none,v⟩=>some v
  |some ⟨some p,v⟩=>bif A.any (fun q=>Nat.beq q.1 p.1&&q.2==p.2)then some v else none
  |none=>none
 | .const v=>some (.ofValue v)
 | .func f=>some (.one ⟨false,[.val (.func (.func f) #[] #[])]⟩)
 | .global _=>none
def asm(s:St):Nat→Option (Nat×Bool)→List (Nat×Bool)
 |_,none=> []
 |0,some _=> []
 |f + 1,some p=>p::asm s f (match s.look p.1 with | some x=>x.g | none=>none)
theorem ahG{B:Base}{ρ:Nm}{s:St}{a:Act}{w:World}(hM:Mdl B ρ s a w): ∀ (f:Nat) (g:Option (Nat×Bool)),(∀ p,g=some p→yl a.tmps p.1=some p.2)→ ∀ q∈asm s f g,yl a.tmps q.1=some q.2
 |_,none,_,q,hq=>by cases ‹Nat› <;> simp [asm]at hq
 |0,some p,_,q,hq=>by simp [asm]at hq
 |f + 1,some p,h,q,hq=>by
  simp only [asm,List.mem_cons]at hq
  rcases hq with rfl | hq
  ·exact h _ rfl
  ·refine ahG hM f _ (fun p' hp'=> ?_) q hq
   cases hx:s.look p.1 with
   |none=>simp [hx]at hp'
   |some x=>
    simp only [hx]at hp'
    have hs:=hM.hs _ _ hx
    have hy:=h p rfl
    simp only [yl,hs]at hy
    obtain⟨g,v⟩:=x
    simp only at hp'
    subst hp'
    simp only [SS.at]at hy
    split at hy
    ·rename_i Xh
     split at Xh
     ·assumption
     ·simp [undef]at Xh
    ·cases hy
theorem ajq{B:Base}{ρ:Nm}{s:St}{a:Act}{w:World}(hM:Mdl B ρ s a w){look:Nat→Option SS}(hL: ∀ k x,look k=some x→s.look k=some x){A:List (Nat×Bool)}(hA: ∀ q∈A,yl a.tmps q.1=some q.2){x:Operand}{v:SV}(h:ev look A x=some v):a.eval x=v.conc ρ:=by
 cases x with
 |tmp t=>
  simp only [ev]at h
  cases hx:look t with
  |none=>simp [hx]at h
  |some x=>
   have hs:=hM.hs _ _ (hL _ _ hx)
   obtain⟨g,u⟩:=x
   simp only [hx]at h
   cases g with
   |none=>
    simp at h;subst h
    simp [Act.eval,hs,SS.at]
   |some p=>
    simp only at h
    cases hb:A.any (fun q=>Nat.beq q.1 p.1&&q.2==p.2)with
    |false=>simp [hb]at h
    |true=>
     simp [hb]at h;subst h
     obtain⟨q,hq,hqp⟩:=List.any_eq_true.1 hb
     simp only [Bool.and_eq_true,beq_iff_eq]at hqp
     have h1:=Nat.eq_of_beq_eq_true hqp.1
     have:=hA q hq
     rw [h1,hqp.2]at this
     simp [Act.eval,hs,SS.at,this]
 |const v'=>simp only [ev,Option.some.injEq]at h;subst h;simp [Act.eval,SV.conc_ofValue]
 |func f=>simp only [ev,Option.some.injEq]at h;subst h;rfl
 |global g=>simp [ev]at h
theorem asa{B:Base}{ρ:Nm}{s:St}{a:Act}{w:World}(hM:Mdl B ρ s a w){look:Nat→Option SS}(hL: ∀ k x,look k=some x→s.look k=some x){A:List (Nat×Bool)}{x:Operand}{v:SV}(h:ev look A x=some v):v.inU s.used:=by
 cases x with
 |tmp t=>
  simp only [ev]at h
  cases hx:look t with
  |none=>simp [hx]at h
  |some x=>
   have hs:=hM.hu _ _ (hL _ _ hx)
   obtain⟨g,u⟩:=x
   simp only [hx]at h
   cases g with
   |none=>simp at h;subst h;exact hs
   |some p=>
    simp only at h
    cases hb:A.any (fun q=>Nat.beq q.1 p.1&&q.2==p.2)with
    |false=>simp [hb]at h
    |true=>simp [hb]at h;subst h;exact hs
 |const v'=>simp only [ev,Option.some.injEq]at h;subst h;exact SV.ofValue_inU _ _
 |func f=>simp only [ev,Option.some.injEq]at h;subst h;intro c hc;simp only [List.mem_singleton]at hc;subst hc;trivial
 |global g=>simp [ev]at h
def Zy(c:Bool):Value→Value→Option Value
 | .int k x,.int k' y=>if k=k' then some (.int k (cond c x y))else none
 | .bool x,.bool y=>some (.bool (cond c x y))
 | .string x,.string y=>some (.string (cond c x y))
 |_,_=>none
theorem akn{c:Bool}{a b v:Value}(h:Zy c a b=some v):v=cond c a b:=by
 unfold Zy at h
 split at h
 ·split at h
  ·rename_i hk;subst hk;cases h;cases c <;> rfl
  ·cases h
 ·cases h;cases c <;> rfl
 ·cases h;cases c <;> rfl
 ·cases h
def SL(c:Bool):Cell→Cell→Option Cell
 | .val a,.val b=>(Zy c a b).map .val
 | .ptr i o,.ptr i' o'=>bif Nat.beq i i'&&Nat.beq o o' then some (.ptr i o)else none
 | .ref i,.ref i'=>bif Nat.beq i i' then some (.ref i)else none
 |_,_=>none
theorem ai6(ρ:Nm){c:Bool}{a b v:Cell}(h:SL c a b=some v):v.conc ρ=cond c (a.conc ρ) (b.conc ρ):=by
 unfold SL at h
 split at h
 ·rename_i x y
  cases hm:Zy c x y with
  |none=>simp [hm]at h
  |some u=>simp [hm]at h;subst h;simp only [Cell.conc];exact akn hm
 ·rename_i i o i' o'
  cases hb:(Nat.beq i i'&&Nat.beq o o')with
  |false=>simp [hb]at h
  |true=>
   simp [hb]at h;subst h
   simp only [Bool.and_eq_true]at hb
   rw [Nat.eq_of_beq_eq_true hb.1,Nat.eq_of_beq_eq_true hb.2];cases c <;> rfl
 ·rename_i i i'
  cases hb:Nat.beq i i' with
  |false=>simp [hb]at h
  |true=>
   simp [hb]at h;subst h
   rw [Nat.eq_of_beq_eq_true hb];cases c <;> rfl
 ·cases h
theorem alj{U:Nat→Bool}{c:Bool}{a b v:Cell}(ha:a.inU U)(h:SL c a b=some v):v.inU U:=by
 unfold SL at h
 split at h
 ·rename_i x y
  cases hm:Zy c x y with
  |none=>simp [hm]at h
  |some u=>simp [hm]at h;subst h;trivial
 ·rename_i i o i' o'
  cases hb:(Nat.beq i i'&&Nat.beq o o')with
  |false=>simp [hb]at h
  |true=>simp [hb]at h;subst h;exact ha
 ·rename_i i i'
  cases hb:Nat.beq i i' with
  |false=>simp [hb]at h
  |true=>simp [hb]at h;subst h;exact ha
 ·cases h
def mJ(c:Bool):List Cell→List Cell→Option (List Cell)
 | [],[]=>some []
 |a::as,b::bs=>match SL c a b,mJ c as bs with
  |some x,some xs=>some (x::xs)
  |_,_=>none
 |_,_=>none
theorem Dc(ρ:Nm){c:Bool}: ∀ {as bs vs:List Cell},mJ c as bs=some vs→vs.map (Cell.conc ρ)=cond c (as.map (Cell.conc ρ)) (bs.map (Cell.conc ρ))∧vs.length=as.length∧vs.length=bs.length
 | [],[],vs,h=>by simp [mJ]at h;subst h;cases c <;> exact⟨rfl,rfl,rfl⟩
 | [],_::_,vs,h=>by simp [mJ]at h
 |_::_,[],vs,h=>by simp [mJ]at h
 |a::as,b::bs,vs,h=>by
  simp only [mJ]at h
  split at h
  ·rename_i x xs hx hxs
   cases h
   obtain⟨h1,h2,h3⟩:=Dc ρ hxs
   have h0:=ai6 ρ hx
   refine⟨?_,by simp [h2],by simp [h3]⟩
   simp only [List.map_cons,h0,h1];cases c <;> rfl
  ·cases h
theorem QX{U:Nat→Bool}{c:Bool}: ∀ {as bs vs:List Cell},(∀ x∈as,x.inU U)→mJ c as bs=some vs→ ∀ x∈vs,x.inU U
 | [],[],vs,_,h=>by simp [mJ]at h;subst h;simp
 | [],_::_,vs,_,h=>by simp [mJ]at h
 |_::_,[],vs,_,h=>by simp [mJ]at h
 |a::as,b::bs,vs,ha,h=>by
  simp only [mJ]at h
  split at h
  ·rename_i x xs hx hxs
   cases h
   intro y hy
   rcases List.mem_cons.1 hy with rfl | hy
   ·exact alj (ha _ (by simp)) hx
   ·exact QX (fun z hz=>ha z (by simp [hz])) hxs y hy
  ·cases h
def OO(c:Bool)(a b:V1):Option V1:=
 match a.agg,b.agg with
 |true,true=>(mJ c a.cs b.cs).map (⟨true,·⟩)
 |false,false=>(mJ c a.cs b.cs).map (⟨false,·⟩)
 |_,_=>none
theorem aeL(ρ:Nm){c:Bool}{a b v:V1}(h:OO c a b=some v):v.conc ρ=cond c (a.conc ρ) (b.conc ρ):=by
 obtain⟨ga,as⟩:=a
 obtain⟨gb,bs⟩:=b
 unfold OO at h
 split at h
 ·rename_i e1 e2
  simp only at e1 e2 h;subst e1 e2
  cases hm:mJ c as bs with
  |none=>simp [hm]at h
  |some u=>simp [hm]at h;subst h;simp only [V1.conc,(Dc ρ hm).1];cases c <;> rfl
 ·rename_i e1 e2
  simp only at e1 e2 h;subst e1 e2
  cases hm:mJ c as bs with
  |none=>simp [hm]at h
  |some u=>
   simp [hm]at h;subst h
   obtain⟨h1,h2,h3⟩:=Dc ρ hm
   match u,as,bs,h1,h2,h3 with
   | [],[],[],_,_,_=>cases c <;> rfl
   | [x],[y],[z],h1,_,_=>simp only [V1.conc];cases c <;> simpa using h1
   |_::_::_,_::_::_,_::_::_,_,_,_=>cases c <;> rfl
 ·cases h
theorem aiQ{U:Nat→Bool}{c:Bool}{a b v:V1}(ha:a.inU U)(h:OO c a b=some v):v.inU U:=by
 unfold OO at h
 split at h
 all_goals first
  |cases h
  |(cases hm:mJ c a.cs b.cs with
    |none=>simp [hm]at h
    |some u=>simp [hm]at h;subst h;exact QX ha hm)
def xY(c:Bool):List V1→List V1→Option (List V1)
 | [],[]=>some []
 |a::as,b::bs=>match OO c a b,xY c as bs with
  |some x,some xs=>some (x::xs)
  |_,_=>none
 |_,_=>none
theorem ac3(ρ:Nm){c:Bool}: ∀ {as bs vs:List V1},xY c as bs=some vs→vs.map (V1.conc ρ)=cond c (as.map (V1.conc ρ)) (bs.map (V1.conc ρ))
 | [],[],vs,h=>by simp [xY]at h;subst h;cases c <;> rfl
 | [],_::_,vs,h=>by simp [xY]at h
 |_::_,[],vs,h=>by simp [xY]at h
 |a::as,b::bs,vs,h=>by
  simp only [xY]at h
  split at h
  ·rename_i x xs hx hxs
   cases h
   simp only [List.map_cons,aeL ρ hx,ac3 ρ hxs];cases c <;> rfl
  ·cases h
theorem ag5{U:Nat→Bool}{c:Bool}: ∀ {as bs vs:List V1},(∀ x∈as,x.inU U)→xY c as bs=some vs→ ∀ x∈vs,x.inU U
 | [],[],vs,_,h=>by simp [xY]at h;subst h;simp
 | [],_::_,vs,_,h=>by simp [xY]at h
 |_::_,[],vs,_,h=>by simp [xY]at h
 |a::as,b::bs,vs,ha,h=>by
  simp only [xY]at h
  split at h
  ·rename_i x xs hx hxs
   cases h
   intro y hy
   rcases List.mem_cons.1 hy with rfl | hy
   ·exact aiQ (ha _ (by simp)) hx
   ·exact ag5 (fun z hz=>ha z (by simp [hz])) hxs y hy
  ·cases h
def Ll(c:Bool):SV→SV→Option SV
 | .one a,.one b=>(OO c a b).map .one
 | .tup as,.tup bs=>(xY c as bs).map .tup
 |_,_=>none
theorem OD(ρ:Nm){c:Bool}{a b v:SV}(h:Ll c a b=some v):v.conc ρ=cond c (a.conc ρ) (b.conc ρ):=by
 unfold Ll at h
 split at h
 ·rename_i x y
  cases hm:OO c x y with
  |none=>simp [hm]at h
  |some u=>simp [hm]at h;subst h;exact aeL ρ hm
 ·rename_i x y
  cases hm:xY c x y with
  |none=>simp [hm]at h
  |some u=>simp [hm]at h;subst h;simp only [SV.conc,ac3 ρ hm];cases c <;> rfl
 ·cases h
theorem aiP{U:Nat→Bool}{c:Bool}{a b v:SV}(ha:a.inU U)(h:Ll c a b=some v):v.inU U:=by
 unfold Ll at h
 split at h
 ·rename_i x y
  cases hm:OO c x y with
  |none=>simp [hm]at h
  |some u=>simp [hm]at h;subst h;exact aiQ ha hm
 ·rename_i x y
  cases hm:xY c x y with
  |none=>simp [hm]at h
  |some u=>simp [hm]at h;subst h;exact ag5 ha hm
 ·cases h
end Go.SX
namespace Go.SX
open Go.RowKit
theorem jF{used:Nat→Bool}{new:List Nat}: ∀ id,used id=true→dg used new id=true:=by
 intro id h;simp only [dg];cases memN new id <;> simp [h]
theorem Entry.inU_mono{U U':Nat→Bool}(h: ∀ id,U id=true→U' id=true){e:Entry}(he:e.inU U):e.inU U':=by
 cases e with
 |box T cs=>exact fun c hc=>Cell.inU_mono h (he c hc)
 |tree e t xs ho=>
  cases ho with
  |none=>trivial
  |some p=>exact fun c hc=>Cell.inU_mono h (he c hc)
 |_=>trivial
theorem agN{v:Value}{w:World}{e:TypeId}{z n:Nat}{cs:List Value}(h:Gl w e z v n cs){b:Nat}(hb:b∈lj v):
  ∃ cap cur,v= .slice (some ⟨b,0,none⟩) n cap∧w.heap[b]? =some (.cells cur e (0,0))∧n≤cap∧cap≤maxLen∧cur.size=cap * z∧cur.toList.take (n * z)=cs:=by
 rcases h.2 with⟨hz,_⟩ | ⟨g,cap,cur,rfl,h0,hg,h1,h2,h3,h4⟩
 ·rw [alD hz]at hb;cases hb
 ·rw [xS h0,List.mem_singleton]at hb;subst hb
  exact⟨cap,cur,rfl,hg,h1,h2,h3,h4⟩
theorem zO.blk{w:World}: ∀ {t:CTy} {cs:List Value} {x:E t} {L:List Nat},zO w t cs x L→ ∀ b∈L,b < w.heap.size
 | .int _,_,_,_,h,b,hb=>by simp only [zO]at h;rw [h.2]at hb;cases hb
 | .bool,_,_,_,h,b,hb=>by simp only [zO]at h;rw [h.2]at hb;cases hb
 | .str,_,_,_,h,b,hb=>by simp only [zO]at h;rw [h.2]at hb;cases hb
 | .pair _ _,_,_,_,h,b,hb=>by
  simp only [zO]at h
  obtain⟨c1,c2,L1,L2,_,rfl,h1,h2,_⟩:=h
  rcases List.mem_append.1 hb with hb | hb
  ·exact h1.blk b hb
  ·exact h2.blk b hb
 | .sl _ _,_,_,_,h,b,hb=>by
  simp only [zO]at h
  obtain⟨v,ds,_,rfl,_,ho,_⟩:=h
  obtain⟨_,_,_,hg,_⟩:=agN ho hb
  exact(Array.getElem?_eq_some_iff.1 hg).1
theorem VA.blk{w:World}{ρ:Nm}{t:CTy}{cs:List Value}{xs:List (E t)}{Ls:List (List Nat)}{ho:Option (Nat×List Cell)}(h:VA w ρ t cs xs Ls ho): ∀ b∈sL Ls,b < w.heap.size:=by
 intro b hb
 obtain⟨k,l,h1,h2⟩:=rC.1 hb
 have hk:k < xs.length:=by rw [← h.1];exact(List.getElem?_eq_some_iff.1 h1).1
 by_cases hq: ∀ j hc,ho=some (j,hc)→k≠j
 ·exact(h.2.2.1 k _ l hq (List.getElem?_eq_getElem hk) h1).blk b h2
 ·simp only [ne_eq]at hq
  have: ∃ j hc,ho=some (j,hc)∧k=j:=by
   apply Classical.byContradiction
   intro hn
   exact hq fun j hc he hkj=>hn ⟨j,hc,he,hkj⟩
  obtain⟨j,hc,he,rfl⟩:=this
  obtain⟨_,h3,_⟩:=h.2.1 k hc he
  rw [h1]at h3;cases h3;cases h2
theorem Entry.ob_lt{B:Base}{ρ:Nm}{w:World}{id:Nat}{e:Entry}(h:e.holds B ρ w id){b:Nat}(hb:b∈e.ob ρ id):b < w.heap.size∧B.mem b=none∧ρ.mem b=none:=by
 cases e with
 |box T cs=>
  obtain⟨c,h1,h2,h3,h4⟩:=h
  simp only [Entry.ob,h1,lj,List.mem_singleton]at hb
  subst hb
  exact⟨(Array.getElem?_eq_some_iff.1 h2).1,h3,h4⟩
 |row own e t xs=>
  cases own with
  |false=>simp [Entry.ob]at hb
  |true=>
   obtain⟨cs,h1,_,h3⟩:=h
   simp only [Entry.ob]at hb
   obtain⟨_,_,_,hg,_⟩:=agN h1 hb
   exact⟨(Array.getElem?_eq_some_iff.1 hg).1,h3 b hb⟩
 |tree e t xs ho=>
  obtain⟨cs,Ls,h1,h2,h3,_,h4⟩:=h
  simp only [Entry.ob]at hb
  refine⟨?_,h4 b hb⟩
  rcases List.mem_append.1 hb with hb | hb
  ·obtain⟨_,_,_,hg,_⟩:=agN h1 hb
   exact(Array.getElem?_eq_some_iff.1 hg).1
  ·rw [h3]at hb;exact h2.blk b hb
 |gone=>simp [Entry.ob]at hb
theorem Nk{v:Value}{w w':World}{e:TypeId}{z n:Nat}{cs:List Value}(h:Gl w e z v n cs)(hk: ∀ b∈lj v,w'.heap[b]? =w.heap[b]?):Gl w' e z v n cs:=by
 refine⟨h.1,h.2.imp id ?_⟩
 rintro⟨g,cap,cur,rfl,h1,h2,rest⟩
 exact⟨g,cap,cur,rfl,h1,by rw [hk g (by rw [xS h1];simp)];exact h2,rest⟩
theorem zO.keep{w w':World}: ∀ {t:CTy} {cs:List Value} {x:E t} {L:List Nat},zO w t cs x L→(∀ b∈L,w'.heap[b]? =w.heap[b]?)→zO w' t cs x L
 | .int _,_,_,_,h,_=>by simp only [zO]at h ⊢;exact h
 | .bool,_,_,_,h,_=>by simp only [zO]at h ⊢;exact h
 | .str,_,_,_,h,_=>by simp only [zO]at h ⊢;exact h
 | .pair _ _,_,_,_,h,hk=>by
  simp only [zO]at h ⊢
  obtain⟨c1,c2,L1,L2,e,rfl,h1,h2,h3⟩:=h
  exact⟨c1,c2,L1,L2,e,rfl,h1.keep fun b hb=>hk b (List.mem_append_left _ hb),h2.keep fun b hb=>hk b (List.mem_append_right _ hb),h3⟩
 | .sl _ _,_,_,_,h,hk=>by
  simp only [zO]at h ⊢
  obtain⟨v,ds,e,rfl,hf,ho,hr⟩:=h
  exact⟨v,ds,e,rfl,hf,Nk ho hk,hr⟩
theorem VA.keep{w w':World}{ρ ρ':Nm}{t:CTy}{cs:List Value}{xs:List (E t)}{Ls:List (List Nat)}{ho:Option (Nat×List Cell)}(h:VA w ρ t cs xs Ls ho)(hk: ∀ b∈sL Ls,w'.heap[b]? =w.heap[b]?)
  (hc: ∀ k hc,ho=some (k,hc)→hc.map (Cell.conc ρ')=hc.map (Cell.conc ρ)):VA w' ρ' t cs xs Ls ho:=by
 obtain⟨h1,h2,h3,h4⟩:=h
 refine⟨h1,fun k l he=> ?_,fun i x l hi hx hl=>(h3 i x l hi hx hl).keep fun b hb=>hk b (rC.2 ⟨i,l,hl,hb⟩),h4⟩
 obtain⟨a,b,c⟩:=h2 k l he
 exact⟨a,b,by rw [hc k l he];exact c⟩
theorem Entry.holds_keep{B:Base}{ρ ρ':Nm}{U:Nat→Bool}{w w':World}{id:Nat}{e:Entry}(hfp:ρ'.fp id=ρ.fp id)(NL: ∀ id,U id=true→ρ' id=ρ id)(hold: ∀ b o,ρ.mem b=some o→ρ'.mem b=some o)
  (hU:U id=true) (Ou:e.inU U) (hh:e.holds B ρ w id) (hw: ∀ b∈e.ob ρ id,w'.heap[b]? =w.heap[b]?) (hm: ∀ b∈e.ob ρ id,ρ'.mem b=none):e.holds B ρ' w' id:=by
 cases e with
 |box T cs=>
  obtain⟨b,h1,h2,h3,h4⟩:=hh
  simp only [Entry.ob,h1,lj,List.mem_singleton,forall_eq]at hw hm
  exact⟨b,by rw [NL id hU,h1],by rw [wb NL Ou,hw,h2],h3,hm⟩
 |row own e t xs=>
  cases own with
  |false=>
   simp only [Entry.holds]at hh ⊢
   rw [NL id hU];exact hh.mono hold
  |true=>
   obtain⟨cs,h1,h2,h3⟩:=hh
   simp only [Entry.ob]at hw hm
   simp only [Entry.holds]
   rw [NL id hU]
   exact⟨cs,Nk h1 hw,h2.mono hold,fun b hb=>⟨(h3 b hb).1,hm b hb⟩⟩
 |tree e t xs ho=>
  obtain⟨cs,Ls,h1,h2,h3,h4,h5⟩:=hh
  simp only [Entry.ob]at hw hm
  simp only [Entry.holds]
  rw [NL id hU,hfp]
  refine⟨cs,Ls,Nk h1 fun b hb=>hw b (List.mem_append_left _ hb),h2.keep (fun b hb=>hw b (List.mem_append_right _ (by rw [h3];exact hb))) fun k l he=> ?_,h3,h4,fun b hb=>⟨(h5 b hb).1,hm b hb⟩⟩
  subst he
  exact wb NL Ou
 |gone=>trivial
structure Chg (w w':World) (X:Nat→Prop):Prop where
 os:w'.os=w.os
 tape:w'.tape=w.tape
 output:w'.output=w.output
 size:w.heap.size≤w'.heap.size
 block: ∀ k,k < w.heap.size→ ¬ X k→w'.heap[k]? =w.heap[k]?
theorem Chg.refl(w:World)(X:Nat→Prop):Chg w w X:=⟨rfl,rfl,rfl,Nat.le_refl _,fun _ _ _=>rfl⟩
theorem Chg.grown{w w':World}{r:Option Nat}(h:w.grownBy w' r):Chg w w' (fun k=>r=some k):=
 ⟨h.os,h.tape,h.output,h.size,fun k hk hX=>h.block k hk fun e=>hX e.symm⟩
theorem Chg.alloc(w:World)(o:Obj):Chg w (w.alloc o) (fun _=>False):=
 ⟨rfl,rfl,rfl,by simp,fun k hk _=>heap_alloc_old w o hk⟩
theorem Chg.setRow(w:World)(b:Nat)(r:Array Value):Chg w (w.setRow b r) (fun k=>k=b):=
 ⟨rfl,rfl,rfl,by simp [World.setRow],fun k _ hX=>setRow_other w b k _ hX⟩
def Was(ent:Nat→Option Entry)(ρ:Nm)(es:List (Nat×Entry))(b:Nat):Prop:= ∃ id e e',ent id=some e∧b∈e.ob ρ id∧look? es id=some e'
theorem Hp.chg{B:Base}{ρ ρ':Nm}{ent:Nat→Option Entry}{used:Nat→Bool}{w w':World}{X:Nat→Prop}{es:List (Nat×Entry)}{new:List Nat}(h:Hp B ρ ent used w)
  (hc:Chg w w' X) (NL: ∀ id,used id=true→ρ' id=ρ id) (hold: ∀ b o,ρ.mem b=some o→ρ'.mem b=some o)
  (hX: ∀ k,X k→Was ent ρ es k)
  (hfr: ∀ b o,ρ'.mem b=some o→ρ.mem b=some o∨(w'.heap[b]? =some o∧(w.heap.size≤b∨Was ent ρ es b)))
  (hes: ∀ id e,look? es id=some e→e.holds B ρ' w' id∧dg used new id=true∧e.inU (dg used new))
  (hob: ∀ id e b,look? es id=some e→b∈e.ob ρ' id→w.heap.size≤b∨Was ent ρ es b)
  (hdis: ∀ id id' e e' b,look? es id=some e→look? es id'=some e'→b∈e.ob ρ' id→b∈e'.ob ρ' id'→id=id')
  (hfp: ∀ id,used id=true→look? es id=none→ρ'.fp id=ρ.fp id:=by intros;rfl):
  Ext B used ρ ρ'∧Hp B ρ' (bG ent es) (dg used new) w':=by
 have QG: ∀ b,Was ent ρ es b→b < w.heap.size∧B.mem b=none∧ρ.mem b=none:=fun b ⟨id,e,_,h1,h2,_⟩=>Entry.ob_lt (h.he id e h1).1 h2
 have hnw: ∀ b o,B.mem b=some o→ ¬ w.heap.size≤b:=fun b o hb Nc=>by
  have:=(Array.getElem?_eq_some_iff.1 (h.hf.mem b o hb)).1;omega
 have oth: ∀ id e b,ent id=some e→look? es id=none→b∈e.ob ρ id→ ¬ Was ent ρ es b:=by
  intro id e b he hl hb ⟨id0,e0,e',h1,h2,h3⟩
  have:=h.hi _ _ _ _ b he h1 hb h2
  subst this;rw [hl]at h3;cases h3
 have oi: ∀ id e,ent id=some e→look? es id=none→e.holds B ρ' w' id∧dg used new id=true∧e.inU (dg used new):=by
  intro id e he hl
  obtain⟨h1,h2,h3⟩:=h.he id e he
  refine⟨Entry.holds_keep (hfp id h2 hl) NL hold h2 h3 h1 (fun b hb=>hc.block b (Entry.ob_lt h1 hb).1 fun hx=>oth id e b he hl hb (hX b hx)) (fun b hb=> ?_),jF _ h2,Entry.inU_mono jF h3⟩
  cases hm:ρ'.mem b with
  |none=>rfl
  |some o=>
   obtain⟨h4,_,h5⟩:=Entry.ob_lt h1 hb
   rcases hfr b o hm with h6 | ⟨_,h6 | h6⟩
   ·rw [h5]at h6;cases h6
   ·omega
   ·exact(oth id e b he hl hb h6).elim
 have oI: ∀ b o,ρ'.mem b=some o→ρ.mem b=some o∨B.mem b=none:=by
  intro b o hb
  rcases hfr b o hb with h6 | ⟨_,h6⟩
  ·exact .inl h6
  ·right
   cases hm:B.mem b with
   |none=>rfl
   |some o'=>
    rcases h6 with h6 | h6
    ·exact(hnw b o' hm h6).elim
    ·rw [(QG b h6).2.1]at hm;cases hm
 refine⟨⟨NL,hold,oI⟩,fun id e he=> ?_,fun id id' e e' b he he' hb hb'=> ?_,hc.os.trans h.hf.os,hc.tape.trans h.hf.tape,hc.output.trans h.hf.output,Nat.le_trans h.hf.size hc.size,fun b o hb=> ?_,fun b o hb=> ?_,h.hf.gl.mono hold⟩
 ·simp only [bG]at he
  cases hl:look? es id with
  |some e1=>simp [hl]at he;subst he;exact hes id _ hl
  |none=>simp [hl]at he;exact oi id e he hl
 ·have hsame: ∀ id e b,ent id=some e→look? es id=none→b∈e.ob ρ' id→b∈e.ob ρ id:=fun id e b he hl hb=>by
   have h1:=NL id (h.he id e he).2.1
   have h2:=hfp id (h.he id e he).2.1 hl
   cases e with
   |row own _ _ _=>cases own <;> simp only [Entry.ob,h1]at hb ⊢ <;> exact hb
   |_=>simp only [Entry.ob,h1,h2]at hb ⊢;exact hb
  simp only [bG]at he he'
  cases hl:look? es id with
  |some e1=>
   simp [hl]at he;subst he
   cases hl':look? es id' with
   |some e2=>simp [hl']at he';subst he';exact hdis _ _ _ _ b hl hl' hb hb'
   |none=>
    simp [hl']at he'
    have hb2:=hsame _ _ _ he' hl' hb'
    rcases hob id _ b hl hb with h6 | h6
    ·have:=(Entry.ob_lt (h.he id' e' he').1 hb2).1;omega
    ·exact(oth id' e' b he' hl' hb2 h6).elim
  |none=>
   simp [hl]at he
   have hb1:=hsame _ _ _ he hl hb
   cases hl':look? es id' with
   |some e2=>
    simp [hl']at he';subst he'
    rcases hob id' _ b hl' hb' with h6 | h6
    ·have:=(Entry.ob_lt (h.he id e he).1 hb1).1;omega
    ·exact(oth id e b he hl hb1 h6).elim
   |none=>
    simp [hl']at he'
    exact h.hi _ _ _ _ b he he' hb1 (hsame _ _ _ he' hl' hb')
 ·have h1:=h.hf.mem b o hb
  rw [hc.block b (Array.getElem?_eq_some_iff.1 h1).1 fun hx=>by rw [(QG b (hX b hx)).2.1]at hb;cases hb];exact h1
 ·rcases hfr b o hb with h6 | ⟨h6,_⟩
  ·have h1:=h.hf.dat b o h6
   rw [hc.block b (Array.getElem?_eq_some_iff.1 h1).1 fun hx=>by rw [(QG b (hX b hx)).2.2]at h6;cases h6];exact h1
  ·exact h6
theorem look?_append{α:Type}: ∀ (l r:List (Nat×α)) (k:Nat),look? (l++r) k=match look? l k with | some x=>some x | none=>look? r k
 | [],r,k=>rfl
 |p::l,r,k=>by
  simp only [List.cons_append,look?]
  cases Nat.beq p.1 k with
  |true=>rfl
  |false=>exact look?_append l r k
theorem aiO: ∀ (l r:List Nat) (k:Nat),memN (l++r) k=(memN l k||memN r k)
 | [],r,k=>by simp [memN]
 |p::l,r,k=>by
  simp only [List.cons_append,memN]
  cases Nat.beq p k with
  |true=>simp
  |false=>simpa using aiO l r k
theorem CH(ent:Nat→Option Entry)(l r:List (Nat×Entry)):bG (bG ent r) l=bG ent (l++r):=by
 funext i
 simp only [bG,look?_append]
 cases look? l i <;> rfl
theorem alw(used:Nat→Bool)(l r:List Nat):dg (dg used r) l=dg used (l++r):=by
 funext i
 simp only [dg,aiO]
 cases memN l i <;> cases memN r i <;> rfl
theorem aaF(used:Nat→Bool):dg used []=used:=rfl
def upd(ρ:Nm)(nid:Nat)(v:Value):Nm:=⟨fun i=>bif Nat.beq i nid then v else ρ.nm i,ρ.mem,ρ.fp⟩
theorem lF(ρ:Nm)(nid:Nat){v:Value}(hv:HP v=v):upd ρ nid v nid=v:=by simp [Nm.of,upd,hv]
theorem TH{a:Addr}{n c b:Nat}(h:b∈lj (.slice (some a) n c)):b=a.block:=by
 simp only [lj]at h
 cases hq:Nat.beq c 0 with
 |true=>rw [hq]at h;cases h
 |false=>rw [hq]at h;simpa using h
theorem Km{v:Value}(h:aeS v): ∃ b,v= .slice b 0 0:=by
 rcases h with rfl | ⟨b,rfl⟩
 ·exact⟨_,rfl⟩
 ·exact⟨_,rfl⟩
theorem ala{v:Value}(h:aeS v):HP v=v:=by
 rcases h with rfl | ⟨_,rfl⟩ <;> rfl
theorem tW{w:World}{e:TypeId}{z n:Nat}{v:Value}{cs:List Value}(h:Gl w e z v n cs):HP v=v:=by
 rcases h.2 with⟨h,_⟩ | ⟨_,_,_,rfl,_⟩
 ·exact ala h
 ·rfl
theorem Chg.own{w w':World}{v:Value}(h:w.grownBy w' v.ownBlock)(hv: ∀ g,v.ownBlock=some g→g∈lj v):Chg w w' (fun k=>k∈lj v):=
 ⟨h.os,h.tape,h.output,h.size,fun k hk hX=>h.block k hk fun e=>hX (hv k e.symm)⟩
theorem Ph{used:Nat→Bool}{nid:Nat}(hn:used nid=false)(ρ:Nm)(v:Value): ∀ id,used id=true→upd ρ nid v id=ρ id:=by
 intro id lI
 have:Nat.beq id nid=false:=by
  cases hb:Nat.beq id nid with
  |false=>rfl
  |true=>rw [Nat.eq_of_beq_eq_true hb,hn]at lI;cases lI
 simp only [Nm.of,upd,this,cond_false]
theorem look?_one{α:Type}{i k:Nat}{x y:α}(h:look? [(i,x)] k=some y):k=i∧y=x:=by
 simp only [look?]at h
 cases hb:Nat.beq i k with
 |true=>simp [hb]at h;exact⟨(Nat.eq_of_beq_eq_true hb).symm,h.symm⟩
 |false=>simp [hb]at h
theorem look?_same{α:Type}(i:Nat)(x:α)(l:List (Nat×α)):look? ((i,x)::l) i=some x:=by simp [look?]
section
variable{B:Base}{ρ:Nm}{ent:Nat→Option Entry}{used:Nat→Bool}{w:World}
theorem Hp.alloc(h:Hp B ρ ent used w){nid:Nat}(hn:used nid=false)(T:TypeId)(cs:List Cell)(OJ: ∀ c∈cs,c.inU used):
  let ρ':=upd ρ nid (.pointer (some ⟨w.heap.size,0,none⟩))
  Ext B used ρ ρ'∧Hp B ρ' (bG ent [(nid,.box T cs)]) (dg used [nid]) (w.alloc (.cells (cs.map (Cell.conc ρ)).toArray T)):=by
 intro ρ'
 have NL:=Ph hn ρ (.pointer (some ⟨w.heap.size,0,none⟩))
 refine h.chg (Chg.alloc w _) NL (fun _ _ h=>h) (fun _ hx=>hx.elim) (fun _ _ hb=> .inl hb) (fun id e he=> ?_) (fun id e b he hb=> ?_) (fun id id' e e' b he he' _ _=> ?_)
 ·obtain⟨rfl,rfl⟩:=look?_one he
  refine⟨⟨w.heap.size,lF _ _ rfl,?_,?_,?_⟩,by simp [dg,memN],fun c hc=>Cell.inU_mono jF (OJ c hc)⟩
  ·rw [wb NL OJ];exact heap_alloc_new w _
  ·cases hm:B.mem w.heap.size with
   |none=>rfl
   |some o=>have:=(Array.getElem?_eq_some_iff.1 (h.hf.mem _ _ hm)).1;omega
  ·show ρ.mem w.heap.size=none
   cases hm:ρ.mem w.heap.size with
   |none=>rfl
   |some o=>have:=(Array.getElem?_eq_some_iff.1 (h.hf.dat _ _ hm)).1;omega
 ·obtain⟨rfl,rfl⟩:=look?_one he
  simp only [Entry.ob]at hb
  rw [show ρ' id= .pointer (some ⟨w.heap.size,0,none⟩) from lF _ _ rfl]at hb
  simp only [lj,List.mem_singleton]at hb
  subst hb;exact .inl (Nat.le_refl _)
 ·exact(look?_one he).1.trans (look?_one he').1.symm
theorem Hp.setBox(h:Hp B ρ ent used w){id:Nat}{T:TypeId}{cs ns:List Cell}(he:ent id=some (.box T cs))(hns: ∀ c∈ns,c.inU used):
  Ext B used ρ ρ∧Hp B ρ (bG ent [(id,.box T ns)]) used (w.setRow (TG (ρ id)) (ns.map (Cell.conc ρ)).toArray):=by
 obtain⟨⟨b,h1,h2,h3,h4⟩,lI,_⟩:=h.he _ _ he
 have hbk:TG (ρ id)=b:=by rw [h1];rfl
 have QG:Was ent ρ [(id,.box T ns)] b:=⟨id,_,_,he,by simp [Entry.ob,h1,lj],look?_same _ _ _⟩
 rw [hbk,show used=dg used [] from rfl]
 refine h.chg (Chg.setRow w b _) (fun _ _=>rfl) (fun _ _ h=>h) (fun k hk=>by subst hk;exact QG) (fun _ _ hb=> .inl hb) (fun i e hl=> ?_) (fun i e b' hl hb'=> ?_) (fun i i' e e' b' hl hl' _ _=> ?_)
 ·obtain⟨rfl,rfl⟩:=look?_one hl
  exact⟨⟨b,h1,setRow_heap w _ _ _ T _ h2,h3,h4⟩,lI,hns⟩
 ·obtain⟨rfl,rfl⟩:=look?_one hl
  simp only [Entry.ob,h1,lj,List.mem_singleton]at hb'
  subst hb';exact .inr QG
 ·exact(look?_one hl).1.trans (look?_one hl').1.symm
theorem Hp.names(h:Hp B ρ ent used w){ρ':Nm}{es:List (Nat×Entry)}{new:List Nat}(NL: ∀ id,used id=true→ρ' id=ρ id)(Kw:ρ'.mem=ρ.mem)
  (hes: ∀ id e,look? es id=some e→e.holds B ρ' w id∧dg used new id=true∧e.inU (dg used new)∧e.ob ρ' id= [])
  (hfp: ∀ id,used id=true→look? es id=none→ρ'.fp id=ρ.fp id:=by intros;rfl):
  Ext B used ρ ρ'∧Hp B ρ' (bG ent es) (dg used new) w:=by
 refine h.chg (Chg.refl w (fun _=>False)) NL (fun _ _ h=>by rw [Kw];exact h) (fun _ hx=>hx.elim) (fun _ _ hb=> .inl (by rw [← Kw];exact hb)) (fun id e he=> ?_) (fun id e b he hb=> ?_) (fun id id' e e' b he he' hb _=> ?_) hfp
 ·obtain⟨h1,h2,h3,_⟩:=hes id e he;exact⟨h1,h2,h3⟩
 ·rw [(hes id e he).2.2.2]at hb;cases hb
 ·rw [(hes id e he).2.2.2]at hb;cases hb
theorem Hp.rowTo(h:Hp B ρ ent used w){id nid:Nat}{e:TypeId}{t:CTy}{xs xs':List (E t)}{w':World}{v':Value}{cs:List Value}(he:ent id=some (.row true e t xs))(hn:used nid=false)
  (hg:Chg w w' (fun k=>k∈lj (ρ id))) (uX:Gl w' e t.size v' xs'.length cs) (xO:qm ρ.mem t cs xs') (hb: ∀ b∈lj v',w.heap.size≤b∨b∈lj (ρ id)):
  let ρ':=upd ρ nid v'
  Ext B used ρ ρ'∧Hp B ρ' (bG ent [(nid,.row true e t xs'),(id,.gone)]) (dg used [nid]) w':=by
 intro ρ'
 obtain⟨⟨cs0,h1,h2,h3⟩,lI,_⟩:=h.he _ _ he
 have NL:=Ph hn ρ v'
 have Vf:Nat.beq nid id=false:=by
  cases hq:Nat.beq nid id with
  |false=>rfl
  |true=>rw [Nat.eq_of_beq_eq_true hq,lI]at hn;cases hn
 have hlid:look? [(nid,Entry.row true e t xs'),(id,.gone)] id=some .gone:=by simp [look?,Vf]
 have QG: ∀ b∈lj (ρ id),Was ent ρ [(nid,.row true e t xs'),(id,.gone)] b:=fun b hb=>⟨id,_,_,he,hb,hlid⟩
 have hcase: ∀ i x,look? [(nid,Entry.row true e t xs'),(id,.gone)] i=some x→(i=nid∧x= .row true e t xs')∨(i=id∧x= .gone):=by
  intro i x hl
  simp only [look?]at hl
  cases hq:Nat.beq nid i with
  |true=>simp [hq]at hl;exact .inl ⟨(Nat.eq_of_beq_eq_true hq).symm,hl.symm⟩
  |false=>
   simp [hq]at hl
   cases hq':Nat.beq id i with
   |true=>simp [hq']at hl;exact .inr ⟨(Nat.eq_of_beq_eq_true hq').symm,hl.symm⟩
   |false=>simp [hq']at hl
 refine h.chg hg NL (fun _ _ h=>h) (fun k hk=>QG k hk) (fun _ _ hb=> .inl hb) (fun i x hl=> ?_) (fun i x b hl hb'=> ?_) (fun i i' x x' b hl hl' hb1 hb2=> ?_)
 ·rcases hcase i x hl with⟨rfl,rfl⟩ | ⟨rfl,rfl⟩
  ·refine⟨?_,by simp [dg,memN],trivial⟩
   simp only [Entry.holds]
   rw [show ρ' i=v' from lF _ _ (tW uX)]
   refine⟨cs,uX,xO,fun b hb'=> ?_⟩
   rcases hb b hb' with h6 | h6
   ·constructor
    ·cases hm:B.mem b with
     |none=>rfl
     |some o=>have:=(Array.getElem?_eq_some_iff.1 (h.hf.mem _ _ hm)).1;omega
    ·show ρ.mem b=none
     cases hm:ρ.mem b with
     |none=>rfl
     |some o=>have:=(Array.getElem?_eq_some_iff.1 (h.hf.dat _ _ hm)).1;omega
   ·exact h3 b h6
  ·exact⟨trivial,jF _ lI,trivial⟩
 ·rcases hcase i x hl with⟨rfl,rfl⟩ | ⟨rfl,rfl⟩
  ·simp only [Entry.ob]at hb'
   rw [show ρ' i=v' from lF _ _ (tW uX)]at hb'
   exact(hb b hb').imp (fun h=>h) (QG b)
  ·simp [Entry.ob]at hb'
 ·rcases hcase i x hl with⟨rfl,rfl⟩ | ⟨rfl,rfl⟩
  ·rcases hcase i' x' hl' with⟨rfl,rfl⟩ | ⟨rfl,rfl⟩
   ·rfl
   ·simp [Entry.ob]at hb2
  ·simp [Entry.ob]at hb1
theorem Hp.rowNew(h:Hp B ρ ent used w){nid:Nat}{e:TypeId}{t:CTy}{xs:List (E t)}{w':World}{v:Value}{cs:List Value}(hn:used nid=false)
  (hg:w.grownBy w' none) (uX:Gl w' e t.size v xs.length cs) (xO:qm ρ.mem t cs xs) (hb: ∀ b∈lj v,w.heap.size≤b):
  let ρ':=upd ρ nid v
  Ext B used ρ ρ'∧Hp B ρ' (bG ent [(nid,.row true e t xs)]) (dg used [nid]) w':=by
 intro ρ'
 have NL:=Ph hn ρ v
 refine h.chg (Chg.grown hg) NL (fun _ _ h=>h) (fun k hk=>by cases hk) (fun _ _ hb=> .inl hb) (fun i x hl=> ?_) (fun i x b hl hb'=> ?_) (fun i i' x x' b hl hl' hb1 hb2=> ?_)
 ·obtain⟨rfl,rfl⟩:=look?_one hl
  refine⟨?_,by simp [dg,memN],trivial⟩
  simp only [Entry.holds]
  rw [show ρ' i=v from lF _ _ (tW uX)]
  refine⟨cs,uX,xO,fun b hb'=> ?_⟩
  have h6:=hb b hb'
  constructor
  ·cases hm:B.mem b with
   |none=>rfl
   |some o=>have:=(Array.getElem?_eq_some_iff.1 (h.hf.mem _ _ hm)).1;omega
  ·show ρ.mem b=none
   cases hm:ρ.mem b with
   |none=>rfl
   |some o=>have:=(Array.getElem?_eq_some_iff.1 (h.hf.dat _ _ hm)).1;omega
 ·obtain⟨rfl,rfl⟩:=look?_one hl
  simp only [Entry.ob]at hb'
  rw [show ρ' i=v from lF _ _ (tW uX)]at hb'
  exact .inl (hb b hb')
 ·exact(look?_one hl).1.trans (look?_one hl').1.symm
theorem Hp.rowSet(h:Hp B ρ ent used w){id:Nat}{e:TypeId}{t:CTy}{xs xs':List (E t)}{w':World}{cs:List Value}(he:ent id=some (.row true e t xs))
  (hg:Chg w w' (fun k=>k∈lj (ρ id))) (uX:Gl w' e t.size (ρ id) xs'.length cs) (xO:qm ρ.mem t cs xs'):
  Ext B used ρ ρ∧Hp B ρ (bG ent [(id,.row true e t xs')]) used w':=by
 obtain⟨⟨cs0,h1,h2,h3⟩,lI,_⟩:=h.he _ _ he
 have QG: ∀ b∈lj (ρ id),Was ent ρ [(id,.row true e t xs')] b:=fun b hb=>⟨id,_,_,he,hb,look?_same _ _ _⟩
 rw [show used=dg used [] from rfl]
 refine h.chg hg (fun _ _=>rfl) (fun _ _ h=>h) (fun k hk=>QG k hk) (fun _ _ hb=> .inl hb) (fun i x hl=> ?_) (fun i x b hl hb'=> ?_) (fun i i' x x' b hl hl' hb1 hb2=> ?_)
 ·obtain⟨rfl,rfl⟩:=look?_one hl
  exact⟨⟨cs,uX,xO,h3⟩,lI,trivial⟩
 ·obtain⟨rfl,rfl⟩:=look?_one hl
  exact .inr (QG b hb')
 ·exact(look?_one hl).1.trans (look?_one hl').1.symm
theorem Hp.freeze'(h:Hp B ρ ent used w){id:Nat}{e:TypeId}{t:CTy}{xs:List (E t)}(he:ent id=some (.row true e t xs)):
  ∃ ρ':Nm,ρ'.nm=ρ.nm∧ρ'.fp=ρ.fp∧(∀ b∈lj (ρ id),∃ o,ρ'.mem b=some o)∧Ext B used ρ ρ'∧Hp B ρ' (bG ent [(id,.row false e t xs)]) used w:=by
 obtain⟨⟨cs,h1,h2,h3⟩,lI,_⟩:=h.he _ _ he
 have QG: ∀ b∈lj (ρ id),Was ent ρ [(id,.row false e t xs)] b:=fun b hb=>⟨id,_,_,he,hb,look?_same _ _ _⟩
 refine⟨⟨ρ.nm,fun b=>if b∈lj (ρ id)then w.heap[b]? else ρ.mem b,ρ.fp⟩,rfl,rfl,fun b hb=> ?_,?_⟩
 ·show ∃ o,(if b∈lj (ρ id)then w.heap[b]? else ρ.mem b)=some o
  rw [if_pos hb]
  obtain⟨_,_,_,hg,_⟩:=agN h1 hb
  exact⟨_,hg⟩
 have hold: ∀ b o,ρ.mem b=some o→(if b∈lj (ρ id)then w.heap[b]? else ρ.mem b)=some o:=by
  intro b o hb
  split
  ·exact h.hf.dat b o hb
  ·exact hb
 rw [show used=dg used [] from rfl]
 refine h.chg (Chg.refl w (fun _=>False)) (fun _ _=>rfl) hold (fun _ hx=>hx.elim) (fun b o hb=> ?_) (fun i x hl=> ?_) (fun i x b hl hb'=> ?_) (fun i i' x x' b hl hl' hb1 hb2=> ?_)
 ·simp only at hb
  split at hb
  ·rename_i hm;exact .inr ⟨hb,.inr (QG b hm)⟩
  ·exact .inl hb
 ·obtain⟨rfl,rfl⟩:=look?_one hl
  refine⟨?_,lI,trivial⟩
  show NO _ t (ρ i) xs
  rcases h1.2 with⟨hv,hn0⟩ | ⟨g,cap,cur,hv,h0,hg,Nc,hcm,Nd,htk⟩
  ·exact .inl ⟨hv,List.length_eq_zero_iff.1 hn0⟩
  ·refine .inr ⟨g,0,cap,cur,e,(0,0),hv,Nc,hcm,?_,fun j x hx=> ?_⟩
   ·show (if g∈lj (ρ i)then w.heap[g]? else ρ.mem g)=_
    rw [if_pos (by rw [hv,xS h0];simp)];exact hg
   ·have:=Rep.mono hold _ _ _ (h2.2 j x hx)
    rw [← htk]at this
    have hj:j < xs.length:=(List.getElem?_eq_some_iff.1 hx).1
    have gV:j * t.size + t.size≤xs.length * t.size:=by
     have:(j + 1) * t.size≤xs.length * t.size:=Nat.mul_le_mul_right _ hj
     rwa [Nat.add_mul,Nat.one_mul]at this
    rw [List.drop_take,List.take_take]at this
    rw [Nat.zero_add]
    rwa [Nat.min_eq_left (by omega)]at this
 ·obtain⟨rfl,rfl⟩:=look?_one hl
  simp [Entry.ob]at hb'
 ·exact(look?_one hl).1.trans (look?_one hl').1.symm
theorem Hp.freeze(h:Hp B ρ ent used w){id:Nat}{e:TypeId}{t:CTy}{xs:List (E t)}(he:ent id=some (.row true e t xs)):
  ∃ ρ':Nm,ρ'.nm=ρ.nm∧Ext B used ρ ρ'∧Hp B ρ' (bG ent [(id,.row false e t xs)]) used w:=
 let ⟨ρ',h1,_,_,h2,h3⟩:=h.freeze' he
 ⟨ρ',h1,h2,h3⟩
end
end Go.SX
namespace Go.SX
open Go.RowKit
def CTy.nsl:CTy→Nat
 | .sl _ _=>1
 | .pair a b=>a.nsl + b.nsl
 |_=>0
def yc:(t:CTy)→E t→Nat→List Cell
 | .int k,x,_=> [.val (.int k x)]
 | .bool,b,_=> [.val (.bool b)]
 | .str,s,_=> [.val (.string s)]
 | .pair a b,p,n=>yc a p.1 n++yc b p.2 (n + a.nsl)
 | .sl _ _,_,n=> [.ref n]
def NN:(t:CTy)→E t→Nat→List (Nat×Entry)
 | .pair a b,p,n=>NN a p.1 n++NN b p.2 (n + a.nsl)
 | .sl e t,xs,n=> [(n,.row false e t xs)]
 |_,_,_=> []
def bm:Nat→Nat→List Nat
 |_,0=> []
 |n,k + 1=>n::bm (n + 1) k
theorem vB: ∀ {k n i:Nat},memN (bm n k) i=true↔n≤i∧i < n + k
 |0,n,i=>by simp [bm,memN]
 |k + 1,n,i=>by
  simp only [bm,memN]
  cases hb:Nat.beq n i with
  |true=>have:=Nat.eq_of_beq_eq_true hb;subst this;simp
  |false=>
   have Vf:n≠i:=fun e=>by subst e;simp at hb
   simp only [cond_false]
   rw [vB];omega
theorem ZB: ∀ (t:CTy) (x:E t) (n:Nat),∀ c∈yc t x n,c.inU (fun i=>Nat.ble n i&&Nat.blt i (n + t.nsl))
 | .int _,_,_,c,hc=>by simp only [yc,List.mem_singleton]at hc;subst hc;trivial
 | .bool,_,_,c,hc=>by simp only [yc,List.mem_singleton]at hc;subst hc;trivial
 | .str,_,_,c,hc=>by simp only [yc,List.mem_singleton]at hc;subst hc;trivial
 | .sl _ _,_,n,c,hc=>by
  simp only [yc,List.mem_singleton]at hc;subst hc
  simp [Cell.inU,CTy.nsl,Nat.blt]
 | .pair a b,p,n,c,hc=>by
  simp only [yc,List.mem_append]at hc
  rcases hc with hc | hc
  ·refine Cell.inU_mono (fun i hi=> ?_) (ZB a p.1 n c hc)
   simp only [Bool.and_eq_true,Nat.ble_eq,Nat.blt,CTy.nsl]at hi ⊢;omega
  ·refine Cell.inU_mono (fun i hi=> ?_) (ZB b p.2 _ c hc)
   simp only [Bool.and_eq_true,Nat.ble_eq,Nat.blt,CTy.nsl]at hi ⊢;omega
theorem aaA: ∀ (t:CTy) (x:E t) (n:Nat),(yc t x n).length=t.size
 | .int _,_,_=>rfl
 | .bool,_,_=>rfl
 | .str,_,_=>rfl
 | .sl _ _,_,_=>rfl
 | .pair a b,p,n=>by simp only [yc,List.length_append,CTy.size,aaA a,aaA b]
theorem Rep.length{H:Nat→Option Obj}: ∀ (t:CTy) (cs:List Value) (x:E t),Rep H t cs x→cs.length=t.size
 | .int _,_,_,h=>by simp only [Rep]at h;rw [h];rfl
 | .bool,_,_,h=>by simp only [Rep]at h;rw [h];rfl
 | .str,_,_,h=>by simp only [Rep]at h;rw [h];rfl
 | .pair a b,_,_,h=>by
  simp only [Rep]at h
  obtain⟨c1,c2,e,h1,h2⟩:=h
  rw [e,List.length_append,Rep.length a _ _ h1,Rep.length b _ _ h2];rfl
 | .sl _ _,_,_,h=>by simp only [Rep]at h;obtain⟨v,e,_⟩:=h;rw [e];rfl
theorem Vk{H:Nat→Option Obj}{α:Type}{p:List Value→α→Prop}{z:Nat}{v:Value}{xs:List α}(h:aok p z H v xs):HP v=v:=by
 rcases h with⟨h,_⟩ | ⟨_,_,_,_,_,_,rfl,_⟩
 ·exact ala h
 ·rfl
theorem aaB: ∀ (t:CTy) (cs:List Value) (x:E t) (n:Nat) (ρ:Nm),Rep ρ.mem t cs x→
  ∃ ρ':Nm,ρ'.mem=ρ.mem∧ρ'.fp=ρ.fp∧(∀ i,i < n∨n + t.nsl≤i→ρ' i=ρ i)∧cs=(yc t x n).map (Cell.conc ρ')∧
   (∀ i e,look? (NN t x n) i=some e→(∃ e0 t0 xs,e= .row false e0 t0 xs∧NO ρ.mem t0 (ρ' i) xs)∧n≤i∧i < n + t.nsl)
 | .int k,cs,x,n,ρ,h=>⟨ρ,rfl,rfl,fun _ _=>rfl,by simp only [Rep]at h;rw [h];rfl,fun i e he=>by simp [NN,look?]at he⟩
 | .bool,cs,x,n,ρ,h=>⟨ρ,rfl,rfl,fun _ _=>rfl,by simp only [Rep]at h;rw [h];rfl,fun i e he=>by simp [NN,look?]at he⟩
 | .str,cs,x,n,ρ,h=>⟨ρ,rfl,rfl,fun _ _=>rfl,by simp only [Rep]at h;rw [h];rfl,fun i e he=>by simp [NN,look?]at he⟩
 | .sl e t,cs,xs,n,ρ,h=>by
  simp only [Rep]at h
  obtain⟨v,hv,hr⟩:=h
  refine⟨upd ρ n v,rfl,rfl,fun i hi=> ?_,?_,fun i e' he=> ?_⟩
  ·have:Nat.beq i n=false:=by
    cases hb:Nat.beq i n with
    |false=>rfl
    |true=>have:=Nat.eq_of_beq_eq_true hb;simp only [CTy.nsl]at hi;omega
   simp only [Nm.of,upd,this,cond_false]
  ·rw [hv];simp [yc,Cell.conc,Nm.of,upd,Vk hr]
  ·simp only [NN]at he
   obtain⟨rfl,rfl⟩:=look?_one he
   refine⟨⟨e,t,xs,rfl,?_⟩,Nat.le_refl _,by simp [CTy.nsl]⟩
   rw [lF _ _ (Vk hr)];exact hr
 | .pair a b,cs,p,n,ρ,h=>by
  simp only [Rep]at h
  obtain⟨c1,c2,e,h1,h2⟩:=h
  obtain⟨ρ1,m1,f1,k1,e1,r1⟩:=aaB a c1 p.1 n ρ h1
  obtain⟨ρ2,m2,f2,k2,e2,r2⟩:=aaB b c2 p.2 (n + a.nsl) ρ1 (by rw [m1];exact h2)
  have hk: ∀ i,i < n + a.nsl→ρ2 i=ρ1 i:=fun i hi=>k2 i (.inl hi)
  refine⟨ρ2,m2.trans m1,f2.trans f1,fun i hi=> ?_,?_,fun i e' he=> ?_⟩
  ·simp only [CTy.nsl]at hi
   rw [k2 i (by omega),k1 i (by omega)]
  ·rw [e,e1,e2]
   simp only [yc,List.map_append]
   congr 1
   refine(wb (U:=fun i=>Nat.ble n i&&Nat.blt i (n + a.nsl)) (fun i hi=>hk i ?_) (ZB a p.1 n)).symm
   simp only [Bool.and_eq_true,Nat.ble_eq,Nat.blt]at hi;omega
  ·simp only [NN]at he
   rw [look?_append]at he
   cases hl:look? (NN a p.1 n) i with
   |some e0=>
    simp [hl]at he;subst he
    obtain⟨⟨e1,t1,xs,he1,hr⟩,hlo,hhi⟩:=r1 i _ hl
    exact⟨⟨e1,t1,xs,he1,by rw [hk i hhi];exact hr⟩,hlo,by simp only [CTy.nsl];omega⟩
   |none=>
    simp [hl]at he
    obtain⟨⟨e1,t1,xs,he1,hr⟩,hlo,hhi⟩:=r2 i _ he
    rw [m1]at hr
    exact⟨⟨e1,t1,xs,he1,hr⟩,by omega,by simp only [CTy.nsl];omega⟩
def frz(ent:Nat→Option Entry):List Nat→List (Nat×Entry)
 | []=> []
 |id::r=>match ent id with
  |some (.row true e t xs)=>(id,.row false e t xs)::frz ent r
  |_=>frz ent r
def aq9(ent:Nat→Option Entry)(t:CTy):Cell→Option (List (E t)×List Nat)
 | .ref id=>match ent id with
  |some (.row _ _ t' xs)=>if h:t'=t then some (h ▸ xs,[id])else none
  |_=>none
 | .val (.slice none 0 0)=>some ([],[])
 |_=>none
def ap8(k:IntKind):List Cell→Option (Int×List Nat)
 | [.val (.int k' x)]=>if k'=k then some (x,[])else none
 |_=>none
def alE:List Cell→Option (Bool×List Nat)
 | [.val (.bool b)]=>some (b,[])
 |_=>none
def aqn:List Cell→Option (ByteArray×List Nat)
 | [.val (.string b)]=>some (b,[])
 |_=>none
def slC(ent:Nat→Option Entry)(t:CTy):List Cell→Option (List (E t)×List Nat)
 | [c]=>aq9 ent t c
 |_=>none
def Jc(ent:Nat→Option Entry):(t:CTy)→List Cell→Option (E t×List Nat)
 | .int k,cs=>ap8 k cs
 | .bool,cs=>alE cs
 | .str,cs=>aqn cs
 | .pair a b,cs=>match Jc ent a (cs.take a.size),Jc ent b (cs.drop a.size)with
  |some (x,l),some (y,m)=>some ((x,y),l++m)
  |_,_=>none
 | .sl _ t,cs=>slC ent t cs
theorem look?_frz{ent:Nat→Option Entry}: ∀ {l:List Nat} {i:Nat} {e:Entry},look? (frz ent l) i=some e→ ∃ e0 t xs,ent i=some (.row true e0 t xs)∧e= .row false e0 t xs
 | [],i,e,h=>by simp [frz,look?]at h
 |id::r,i,e,h=>by
  simp only [frz]at h
  split at h
  ·rename_i e0 t xs he
   simp only [look?]at h
   cases hb:Nat.beq id i with
   |true=>
    have:=Nat.eq_of_beq_eq_true hb;subst this
    simp at h;exact⟨e0,t,xs,he,h.symm⟩
   |false=>simp [hb]at h;exact look?_frz h
  ·exact look?_frz h
theorem look?_frz_mem{ent:Nat→Option Entry}: ∀ {l:List Nat} {i:Nat} {e0:TypeId} {t:CTy} {xs:List (E t)},i∈l→ent i=some (.row true e0 t xs)→look? (frz ent l) i=some (.row false e0 t xs)
 | [],i,_,_,_,h,_=>by cases h
 |id::r,i,e0,t,xs,h,he=>by
  simp only [frz]
  rcases List.mem_cons.1 h with rfl | h
  ·rw [he];exact look?_same _ _ _
  ·split
   ·rename_i e1 t1 xs1 he1
    simp only [look?]
    cases hb:Nat.beq id i with
    |true=>
     have:=Nat.eq_of_beq_eq_true hb;subst this
     rw [he]at he1;cases he1;rfl
    |false=>exact look?_frz_mem h he
   ·exact look?_frz_mem h he
section
variable{B:Base}{ρ:Nm}{ent:Nat→Option Entry}{used:Nat→Bool}{w:World}
theorem Hp.freezes{e0:Nat→Option Entry}(hs: ∀ id e,e0 id=some e→ent id=some e)(h:Hp B ρ ent used w): ∀ (l:List Nat),∃ ρ':Nm,ρ'.nm=ρ.nm∧Ext B used ρ ρ'∧Hp B ρ' (bG ent (frz e0 l)) used w
 | []=>⟨ρ,rfl,Ext.refl _ _ _,h⟩
 |id::r=>by
  obtain⟨ρ1,n1,x1,h1⟩:=Hp.freezes hs h r
  simp only [frz]
  split
  ·rename_i e t xs he
   cases hl:look? (frz e0 r) id with
   |none=>
    have he':bG ent (frz e0 r) id=some (.row true e t xs):=by simp only [bG,hl];exact hs _ _ he
    obtain⟨ρ2,n2,x2,h2⟩:=h1.freeze he'
    rw [CH]at h2
    exact⟨ρ2,n2.trans n1,x1.trans x2 fun _ h=>h,h2⟩
   |some e1=>
    obtain⟨e9,t0,xs0,h3,h4⟩:=look?_frz hl
    rw [he]at h3;cases h3
    refine⟨ρ1,n1,x1,?_⟩
    rw [show bG ent ((id,Entry.row false e t xs)::frz e0 r)=bG ent (frz e0 r) from funext fun i=>by
     simp only [bG,look?]
     cases hb:Nat.beq id i with
     |true=>have:=Nat.eq_of_beq_eq_true hb;subst this;simp [hl,h4]
     |false=>rfl]
    exact h1
  ·exact⟨ρ1,n1,x1,h1⟩
theorem apb{e0:Nat→Option Entry}(hs: ∀ id e,e0 id=some e→ent id=some e){l:List Nat}(h:Hp B ρ (bG ent (frz e0 l)) used w){t:CTy}{c:Cell}{xs:List (E t)}{ids:List Nat}(hc:aq9 e0 t c=some (xs,ids))(hl: ∀ id∈ids,id∈l):NO ρ.mem t (c.conc ρ) xs:=by
 unfold aq9 at hc
 split at hc
 ·rename_i id
  split at hc
  ·rename_i own e t' ys he
   split at hc
   ·rename_i ht
    subst ht
    simp only [Option.some.injEq,Prod.mk.injEq]at hc
    obtain⟨rfl,rfl⟩:=hc
    cases own with
    |true=>
     have:=look?_frz_mem (hl id (by simp)) he
     have h2:bG ent (frz e0 l) id=some (.row false e t' ys):=by simp only [bG,this]
     exact(h.he id _ h2).1
    |false=>
     cases hq:look? (frz e0 l) id with
     |none=>exact(h.he id _ (by simp only [bG,hq];exact hs _ _ he)).1
     |some e1=>obtain⟨_,_,_,h3,_⟩:=look?_frz hq;rw [he]at h3;cases h3
   ·cases hc
  ·cases hc
 ·simp only [Option.some.injEq,Prod.mk.injEq]at hc
  obtain⟨rfl,rfl⟩:=hc
  exact .inl ⟨.inl rfl,rfl⟩
 ·cases hc
theorem TI{e0:Nat→Option Entry}(hs: ∀ id e,e0 id=some e→ent id=some e){l:List Nat}(h:Hp B ρ (bG ent (frz e0 l)) used w): ∀ (t:CTy) (cs:List Cell) (x:E t) (ids:List Nat),Jc e0 t cs=some (x,ids)→(∀ id∈ids,id∈l)→Rep ρ.mem t (cs.map (Cell.conc ρ)) x
 | .int k,cs,x,ids,hc,hl=>by
  simp only [Jc]at hc
  unfold ap8 at hc
  split at hc
  ·split at hc
   ·rename_i hk;subst hk
    cases hc
    exact rfl
   ·cases hc
  ·cases hc
 | .bool,cs,x,ids,hc,hl=>by
  simp only [Jc]at hc
  unfold alE at hc
  split at hc
  ·cases hc;exact rfl
  ·cases hc
 | .str,cs,x,ids,hc,hl=>by
  simp only [Jc]at hc
  unfold aqn at hc
  split at hc
  ·cases hc;exact rfl
  ·cases hc
 | .sl e t,cs,x,ids,hc,hl=>by
  simp only [Jc]at hc
  unfold slC at hc
  split at hc
  ·simp only [Rep]
   exact⟨_,rfl,apb hs h hc hl⟩
  ·cases hc
 | .pair a b,cs,x,ids,hc,hl=>by
  simp only [Jc]at hc
  split at hc
  ·rename_i x1 l1 y1 m1 h1 h2
   cases hc
   simp only [Rep]
   refine⟨(cs.take a.size).map (Cell.conc ρ),(cs.drop a.size).map (Cell.conc ρ),?_,TI hs h a _ _ _ h1 fun i hi=>hl i (by simp [hi]),TI hs h b _ _ _ h2 fun i hi=>hl i (by simp [hi])⟩
   rw [← List.map_append,List.take_append_drop]
  ·cases hc
end
theorem Rep.one{H:Nat→Option Obj}: ∀ (t:CTy) (cs:List Value) (x:E t),Rep H t cs x→ ∀ u∈cs,u.oneCell'=true
 | .int _,_,_,h,u,hu=>by simp only [Rep]at h;rw [h]at hu;simp at hu;subst hu;rfl
 | .bool,_,_,h,u,hu=>by simp only [Rep]at h;rw [h]at hu;simp at hu;subst hu;rfl
 | .str,_,_,h,u,hu=>by simp only [Rep]at h;rw [h]at hu;simp at hu;subst hu;rfl
 | .pair a b,_,_,h,u,hu=>by
  simp only [Rep]at h
  obtain⟨c1,c2,e,h1,h2⟩:=h
  rw [e]at hu
  rcases List.mem_append.1 hu with hu | hu
  ·exact Rep.one a _ _ h1 u hu
  ·exact Rep.one b _ _ h2 u hu
 | .sl _ _,_,_,h,u,hu=>by
  simp only [Rep]at h
  obtain⟨v,e,hv⟩:=h
  rw [e]at hu;simp at hu;subst hu
  rcases hv with⟨rfl | ⟨_,_,rfl⟩,_⟩ | ⟨_,_,_,_,_,_,rfl,_⟩ <;> rfl
theorem DR: ∀ t:CTy,0 < t.size
 | .int _=>by simp [CTy.size]
 | .bool=>by simp [CTy.size]
 | .str=>by simp [CTy.size]
 | .pair a b=>by have:=DR a;simp only [CTy.size];omega
 | .sl _ _=>by simp [CTy.size]
theorem qm.nil(H:Nat→Option Obj)(t:CTy):qm H t [] []:=⟨by simp,fun i x h=>by simp at h⟩
theorem AJ{n i z:Nat}(h:i < n):i * z + z≤n * z:=by
 have:(i + 1) * z≤n * z:=Nat.mul_le_mul_right _ h
 rwa [Nat.add_mul,Nat.one_mul]at this
theorem qm.append{H:Nat→Option Obj}{t:CTy}{cs ds:List Value}{xs ys:List (E t)}(h:qm H t cs xs)(h':qm H t ds ys):qm H t (cs++ds) (xs++ys):=by
 refine⟨by rw [List.length_append,List.length_append,h.1,h'.1,Nat.add_mul],fun i x hx=> ?_⟩
 by_cases hi:i < xs.length
 ·have hx':xs[i]? =some x:=by rwa [List.getElem?_append_left hi]at hx
  have:=h.2 i x hx'
  have Nc:=AJ (z:=t.size) hi
  rw [List.drop_append_of_le_length (by rw [h.1];omega),List.take_append_of_le_length (by rw [List.length_drop,h.1];omega)]
  exact this
 ·have hx':ys[i - xs.length]? =some x:=by rwa [List.getElem?_append_right (by omega)]at hx
  have:=h'.2 _ x hx'
  have hm:i * t.size=xs.length * t.size + (i - xs.length) * t.size:=by rw [← Nat.add_mul];congr 1;omega
  rw [hm,← h.1,List.drop_append,List.drop_eq_nil_of_le (by omega),List.nil_append,Nat.add_sub_cancel_left]
  exact this
theorem qm.one{H:Nat→Option Obj}{t:CTy}{cs:List Value}{x:E t}(h:Rep H t cs x):qm H t cs [x]:=by
 have hl:=Rep.length t cs x h
 refine⟨by simp [hl],fun i y hy=> ?_⟩
 cases i with
 |zero=>simp at hy;subst hy;rw [Nat.zero_mul,List.drop_zero,← hl,List.take_length];exact h
 |succ i=>simp at hy
theorem qm.set{H:Nat→Option Obj}{t:CTy}{cs ds:List Value}{xs:List (E t)}(h:qm H t cs xs){i:Nat}(hi:i < xs.length){y:E t}(hy:Rep H t ds y):
  qm H t (cs.take (i * t.size)++ds++cs.drop (i * t.size + t.size)) (xs.set i y):=by
 have hl:=Rep.length t ds y hy
 have Nc:=AJ (z:=t.size) hi
 refine⟨by simp only [List.length_append,List.length_take,List.length_drop,h.1,hl,List.length_set];omega,fun j x hx=> ?_⟩
 rw [List.getElem?_set]at hx
 by_cases Zq:i=j
 ·subst Zq
  simp [hi]at hx;subst hx
  rw [List.append_assoc,List.drop_append,List.drop_take,Nat.sub_self,List.take_zero,List.nil_append,List.length_take,h.1,Nat.min_eq_left (by omega),Nat.sub_self,List.drop_zero,
   List.take_append_of_le_length (by omega),← hl,List.take_length]
  exact hy
 ·simp only [Zq,if_false]at hx
  have hj:=(List.getElem?_eq_some_iff.1 hx).1
  have:=h.2 j x hx
  by_cases gV:j < i
  ·have h1:j * t.size + t.size≤i * t.size:=AJ gV
   have e:(cs.take (i * t.size)++ds++cs.drop (i * t.size + t.size)).drop (j * t.size)=(cs.drop (j * t.size)).take (i * t.size - j * t.size)++(ds++cs.drop (i * t.size + t.size)):=by
    rw [List.append_assoc,List.drop_append_of_le_length (by rw [List.length_take,h.1];omega),List.drop_take]
   rw [e,List.take_append_of_le_length (by rw [List.length_take,List.length_drop,h.1];omega),List.take_take,Nat.min_eq_left (by omega)]
   exact this
  ·have hgt:i < j:=by omega
   have h1:i * t.size + t.size≤j * t.size:=AJ hgt
   have e:(cs.take (i * t.size)++ds++cs.drop (i * t.size + t.size)).drop (j * t.size)=cs.drop (j * t.size):=by
    rw [List.drop_append,List.drop_eq_nil_of_le (by rw [List.length_append,List.length_take,h.1,hl];omega),List.nil_append,List.length_append,List.length_take,h.1,hl,List.drop_drop]
    congr 1;omega
   rw [e];exact this
theorem NO.cells{H:Nat→Option Obj}{w:World}(hH: ∀ b o,H b=some o→w.heap[b]? =some o){t:CTy}{v:Value}{xs:List (E t)}(h:NO H t v xs):
  (aeS v∧xs= [])∨
  ∃ b off cap arr T fz,v= .slice (some ⟨b,off,none⟩) xs.length cap∧xs.length≤cap∧cap≤maxLen∧w.heap[b]? =some (.cells arr T fz)∧H b=some (.cells arr T fz)∧
   (xs= []∨qm H t ((arr.toList.drop off).take (xs.length * t.size)) xs):=by
 rcases h with h | ⟨b,off,cap,arr,T,fz,h1,h2,h3,h4,h5⟩
 ·exact .inl h
 ·refine .inr ⟨b,off,cap,arr,T,fz,h1,h2,h3,hH _ _ h4,h4,?_⟩
  cases hxs:xs with
  |nil=>exact .inl rfl
  |cons x0 xr=>
   right
   rw [← hxs]
   have qg:off + xs.length * t.size≤arr.toList.length:=by
    have hlast:xs.length - 1 < xs.length:=by rw [hxs];simp
    have:=h5 (xs.length - 1) _ (List.getElem?_eq_getElem hlast)
    have hl:=Rep.length t _ _ this
    rw [List.length_take,List.length_drop]at hl
    have hp:=DR t
    have e:xs.length * t.size=(xs.length - 1) * t.size + t.size:=by
     have:(xs.length - 1 + 1) * t.size=(xs.length - 1) * t.size + t.size:=by rw [Nat.add_mul,Nat.one_mul]
     rw [← this];congr 1;omega
    omega
   refine⟨by rw [List.length_take,List.length_drop];omega,fun i x hx=> ?_⟩
   have:=h5 i x hx
   have Nc:=AJ (z:=t.size) (List.getElem?_eq_some_iff.1 hx).1
   rw [List.drop_take,List.drop_drop,List.take_take,Nat.min_eq_left (by omega)]
   exact this
end Go.SX
namespace Go.SX
open Go.RowKit
theorem qm.flat0{H H':Nat→Option Obj}{t:CTy}(hf:t.flat=true){cs:List Value}{xs:List (E t)}(h:qm H t cs xs):qm H' t cs xs:=by
 refine⟨h.1,fun i x hx=> ?_⟩
 rw [Rep.flat t _ _ hf (h.2 i x hx)]
 exact Rep.of_flat t x hf
def arM(ent:Nat→Option Entry)(e:TypeId)(t:CTy):Cell→Option (List (E t)×List Nat)
 | .ref id=>match ent id with
  |some (.row true e' t' xs)=>if h:t'=t then(bif Nat.beq e e' then some (h ▸ xs,[id])else none)else none
  |_=>none
 | .val (.slice none 0 0)=>some ([],[])
 |_=>none
def slT(ent:Nat→Option Entry)(e:TypeId)(t:CTy):List Cell→Option (List (E t)×List Nat)
 | [c]=>match t.flat with
  |true=>arM ent e t c
  |false=>none
 |_=>none
def Hs(ent:Nat→Option Entry):(t:CTy)→List Cell→Option (E t×List Nat)
 | .int k,cs=>ap8 k cs
 | .bool,cs=>alE cs
 | .str,cs=>aqn cs
 | .pair a b,cs=>match Hs ent a (cs.take a.size),Hs ent b (cs.drop a.size)with
  |some (x,l),some (y,m)=>some ((x,y),l++m)
  |_,_=>none
 | .sl e t,cs=>slT ent e t cs
def ads(ent:Nat→Option Entry)(t:CTy):List Cell→Nat→Option (List (E t)×List (List Nat))
 | [],0=>some ([],[])
 |_::_,0=>none
 |cs,n + 1=>match Hs ent t (cs.take t.size),ads ent t (cs.drop t.size) n with
  |some (x,l),some (xs,m)=>some (x::xs,l::m)
  |_,_=>none
theorem ZG{α:Type}{l:List α}{k j:Nat}{a b:α}(h:(l.set k a)[j]? =some b):(j=k∧b=a)∨(j≠k∧l[j]? =some b):=by
 by_cases hkj:k=j
 ·subst hkj
  have gV:=(List.getElem?_eq_some_iff.1 h).1
  rw [List.length_set]at gV
  rw [List.getElem?_set_self gV]at h;cases h;exact .inl ⟨rfl,rfl⟩
 ·rw [List.getElem?_set_ne hkj]at h
  exact .inr ⟨fun h=>hkj h.symm,h⟩
theorem Xw{ent:Nat→Option Entry}: ∀ {t:CTy} {cs:List Cell} {x:E t} {ids:List Nat},Hs ent t cs=some (x,ids)→ ∀ i∈ids,∃ e t xs,ent i=some (.row true e t xs)
 | .int k,cs,x,ids,hc,i,hi=>by
  simp only [Hs]at hc;unfold ap8 at hc
  split at hc
  ·split at hc
   ·cases hc;cases hi
   ·cases hc
  ·cases hc
 | .bool,cs,x,ids,hc,i,hi=>by
  simp only [Hs]at hc;unfold alE at hc
  split at hc
  ·cases hc;cases hi
  ·cases hc
 | .str,cs,x,ids,hc,i,hi=>by
  simp only [Hs]at hc;unfold aqn at hc
  split at hc
  ·cases hc;cases hi
  ·cases hc
 | .pair a b,cs,x,ids,hc,i,hi=>by
  simp only [Hs]at hc
  split at hc
  ·rename_i h1 h2;cases hc
   rcases List.mem_append.1 hi with hi | hi
   ·exact Xw h1 i hi
   ·exact Xw h2 i hi
  ·cases hc
 | .sl e t,cs,x,ids,hc,i,hi=>by
  simp only [Hs]at hc
  unfold slT at hc
  split at hc
  ·split at hc
   ·unfold arM at hc
    split at hc
    ·split at hc
     ·rename_i e' t' ys he'
      split at hc
      ·rename_i ht;subst ht
       cases hb:Nat.beq e e' with
       |false=>rw [hb]at hc;cases hc
       |true=>rw [hb]at hc;simp only [cond_true,Option.some.injEq,Prod.mk.injEq]at hc;obtain⟨_,rfl⟩:=hc;simp at hi;subst hi;exact⟨_,_,_,he'⟩
      ·cases hc
     ·cases hc
    ·cases hc;cases hi
    ·cases hc
   ·cases hc
  ·cases hc
def TJ(G:List Nat):List (Nat×Entry):=G.map fun g=>(g,Entry.gone)
theorem look?_gone: ∀ {G:List Nat} {i:Nat} {e:Entry},look? (TJ G) i=some e→i∈G∧e= .gone
 | [],i,e,h=>by simp [TJ,look?]at h
 |g::G,i,e,h=>by
  simp only [TJ,List.map_cons,look?]at h
  cases hb:Nat.beq g i with
  |true=>
   have:=Nat.eq_of_beq_eq_true hb;subst this
   simp at h;exact⟨by simp,h.symm⟩
  |false=>
   simp only [hb,cond_false]at h
   obtain⟨h1,h2⟩:=look?_gone (G:=G) h
   exact⟨by simp [h1],h2⟩
theorem look?_gone_mem: ∀ {G:List Nat} {i:Nat},i∈G→look? (TJ G) i=some .gone
 | [],i,h=>by cases h
 |g::G,i,h=>by
  simp only [TJ,List.map_cons,look?]
  cases hb:Nat.beq g i with
  |true=>rfl
  |false=>
   rcases List.mem_cons.1 h with rfl | h
   ·rw [show Nat.beq i i=true from Nat.beq_refl i]at hb;cases hb
   ·exact look?_gone_mem (G:=G) h
section
variable{B:Base}{ρ:Nm}{ent:Nat→Option Entry}{used:Nat→Bool}{w:World}
theorem Hp.fresh_none(h:Hp B ρ ent used w){b:Nat}(hb:w.heap.size≤b):B.mem b=none∧ρ.mem b=none:=by
 constructor
 ·cases hm:B.mem b with
  |none=>rfl
  |some o=>have:=(Array.getElem?_eq_some_iff.1 (h.hf.mem _ _ hm)).1;omega
 ·cases hm:ρ.mem b with
  |none=>rfl
  |some o=>have:=(Array.getElem?_eq_some_iff.1 (h.hf.dat _ _ hm)).1;omega
theorem apc(h:Hp B ρ ent used w){e:TypeId}{t:CTy}{c:Cell}{xs:List (E t)}{ids:List Nat}(hc:arM ent e t c=some (xs,ids))(hf:t.flat=true):
  ∃ ds,Gl w e t.size (c.conc ρ) xs.length ds∧qm (fun _=>none) t ds xs∧(∀ b∈lj (c.conc ρ),∃ i∈ids,∃ e0,ent i=some e0∧b∈e0.ob ρ i)∧ ∀ i∈ids,∃ e0,ent i=some e0:=by
 unfold arM at hc
 split at hc
 ·rename_i id
  split at hc
  ·rename_i e' t' ys he
   split at hc
   ·rename_i ht
    subst ht
    cases hb:Nat.beq e e' with
    |false=>rw [hb]at hc;cases hc
    |true=>
     rw [hb]at hc
     simp only [cond_true,Option.some.injEq,Prod.mk.injEq]at hc
     obtain⟨rfl,rfl⟩:=hc
     have:=Nat.eq_of_beq_eq_true hb;subst this
     obtain⟨ds,h1,h2,_⟩:=(h.he _ _ he).1
     exact⟨ds,h1,qm.flat0 hf h2,fun b hb=>⟨id,by simp,_,he,hb⟩,fun i hi=>by simp at hi;subst hi;exact⟨_,he⟩⟩
   ·cases hc
  ·cases hc
 ·simp only [Option.some.injEq,Prod.mk.injEq]at hc
  obtain⟨rfl,rfl⟩:=hc
  exact⟨[],ZC _ _ _,qm.nil _ _,fun b hb=>by simp [Cell.conc,lj]at hb,fun i hi=>by cases hi⟩
 ·cases hc
theorem QM(h:Hp B ρ ent used w): ∀ (t:CTy) (cs:List Cell) (x:E t) (ids:List Nat),Hs ent t cs=some (x,ids)→ids.Nodup→
  ∃ L,zO w t (cs.map (Cell.conc ρ)) x L∧(∀ b∈L,∃ i∈ids,∃ e0,ent i=some e0∧b∈e0.ob ρ i)∧ ∀ i∈ids,∃ e0,ent i=some e0
 | .int k,cs,x,ids,hc,_=>by
  simp only [Hs]at hc
  unfold ap8 at hc
  split at hc
  ·split at hc
   ·rename_i hk;subst hk
    cases hc
    exact⟨[],⟨rfl,rfl⟩,fun b hb=>(by cases hb),fun i hi=>(by cases hi)⟩
   ·cases hc
  ·cases hc
 | .bool,cs,x,ids,hc,_=>by
  simp only [Hs]at hc
  unfold alE at hc
  split at hc
  ·cases hc;exact⟨[],⟨rfl,rfl⟩,fun b hb=>(by cases hb),fun i hi=>(by cases hi)⟩
  ·cases hc
 | .str,cs,x,ids,hc,_=>by
  simp only [Hs]at hc
  unfold aqn at hc
  split at hc
  ·cases hc;exact⟨[],⟨rfl,rfl⟩,fun b hb=>(by cases hb),fun i hi=>(by cases hi)⟩
  ·cases hc
 | .sl e t,cs,x,ids,hc,_=>by
  simp only [Hs]at hc
  unfold slT at hc
  split at hc
  ·rename_i c
   split at hc
   ·rename_i hf
    obtain⟨ds,h1,h2,h3,h4⟩:=apc h hc hf
    exact⟨_,by simp only [zO];exact⟨_,ds,rfl,rfl,hf,h1,h2⟩,h3,h4⟩
   ·cases hc
  ·cases hc
 | .pair a b,cs,x,ids,hc,hd=>by
  simp only [Hs]at hc
  split at hc
  ·rename_i x1 l1 y1 m1 h1 h2
   cases hc
   obtain⟨hd1,hd2,hd3⟩:=List.nodup_append.1 hd
   obtain⟨L1,k1,k2,k3⟩:=QM h a _ _ _ h1 hd1
   obtain⟨L2,j1,j2,j3⟩:=QM h b _ _ _ h2 hd2
   refine⟨L1++L2,?_,fun b hb=> ?_,fun i hi=> ?_⟩
   ·simp only [zO]
    refine⟨_,_,L1,L2,?_,rfl,k1,j1,fun k hk hk'=> ?_⟩
    ·rw [← List.map_append,List.take_append_drop]
    ·obtain⟨i,hi,e0,he0,hb0⟩:=k2 k hk
     obtain⟨j,hj,e1,he1,hb1⟩:=j2 k hk'
     have:=h.hi _ _ _ _ k he0 he1 hb0 hb1
     exact hd3 i hi j hj this
   ·rcases List.mem_append.1 hb with hb | hb
    ·obtain⟨i,hi,r⟩:=k2 b hb;exact⟨i,List.mem_append_left _ hi,r⟩
    ·obtain⟨i,hi,r⟩:=j2 b hb;exact⟨i,List.mem_append_right _ hi,r⟩
   ·rcases List.mem_append.1 hi with hi | hi
    ·exact k3 i hi
    ·exact j3 i hi
  ·cases hc
theorem aeC(h:Hp B ρ ent used w){t:CTy}: ∀ {n:Nat} {cs:List Cell} {xs:List (E t)} {idss:List (List Nat)},ads ent t cs n=some (xs,idss)→(sL idss).Nodup→
  ∃ Ls,VA w ρ t (cs.map (Cell.conc ρ)) xs Ls none∧(∀ (k:Nat) l,Ls[k]? =some l→ ∀ b∈l,∃ ids,idss[k]? =some ids∧ ∃ i∈ids,∃ e0,ent i=some e0∧b∈e0.ob ρ i)∧(∀ i∈sL idss,∃ e0,ent i=some e0)∧xs.length=n∧cs.length=n * t.size
 |0,[],xs,idss,hc,_=>by
  simp only [ads,Option.some.injEq,Prod.mk.injEq]at hc
  obtain⟨rfl,rfl⟩:=hc
  exact⟨[],⟨rfl,fun k hc h=>(by cases h),fun i x l _ hx=>by simp at hx,fun i j l l' k hl=>by simp at hl⟩,fun k l hl=>by simp at hl,fun i hi=>by simp [sL]at hi,rfl,by simp⟩
 |0,_::_,xs,idss,hc,_=>by simp [ads]at hc
 |n + 1,cs,xs,idss,hc,hd=>by
  have hc':(match Hs ent t (cs.take t.size),ads ent t (cs.drop t.size) n with
   |some (x,l),some (xs,m)=>some (x::xs,l::m)
   |_,_=>none)=some (xs,idss):=by cases cs <;> exact hc
  split at hc'
  ·rename_i x l ys m h1 h2
   simp only [Option.some.injEq,Prod.mk.injEq]at hc'
   obtain⟨rfl,rfl⟩:=hc'
   simp only [sL]at hd
   obtain⟨hd1,hd2,hd3⟩:=List.nodup_append.1 hd
   obtain⟨L,k1,k2,k3⟩:=QM h t _ _ _ h1 hd1
   obtain⟨Ls,⟨t1,t2,t3,t4⟩,j2,j3,j4,j5⟩:=aeC h h2 hd2
   have qg:(cs.take t.size).length=t.size:=by
    have hr: ∀ (t:CTy) (cs:List Value) (x:E t) (L:List Nat),zO w t cs x L→cs.length=t.size:=by
     intro t
     induction t with
     |int k=>intro cs x L h;simp only [zO]at h;rw [h.1];rfl
     |bool=>intro cs x L h;simp only [zO]at h;rw [h.1];rfl
     |str=>intro cs x L h;simp only [zO]at h;rw [h.1];rfl
     |pair a b iha ihb=>
      intro cs x L h;simp only [zO]at h
      obtain⟨c1,c2,_,_,rfl,_,h1,h2,_⟩:=h
      rw [List.length_append,iha _ _ _ h1,ihb _ _ _ h2];rfl
     |sl e t _=>intro cs x L h;simp only [zO]at h;obtain⟨v,ds,rfl,_⟩:=h;rfl
    have:=hr _ _ _ _ k1
    rwa [List.length_map]at this
   have ZP:cs.length=t.size + (cs.drop t.size).length:=by
    have:=congrArg List.length (List.take_append_drop t.size cs)
    rw [List.length_append,qg]at this;omega
   have hdrop: ∀ i,(((cs.map (Cell.conc ρ)).drop ((i + 1) * t.size)).take t.size)=((((cs.drop t.size).map (Cell.conc ρ)).drop (i * t.size)).take t.size):=by
    intro i
    rw [List.map_drop,List.drop_drop]
    congr 2
    rw [Nat.add_mul,Nat.one_mul];omega
   have hkey: ∀ (k:Nat) l0,(L::Ls)[k]? =some l0→ ∀ b∈l0,∃ ids,(l::m)[k]? =some ids∧ ∃ i∈ids,∃ e0,ent i=some e0∧b∈e0.ob ρ i:=by
    intro k l0 hl0 b hb
    cases k with
    |zero=>simp at hl0;subst hl0;exact⟨l,rfl,k2 b hb⟩
    |succ k=>exact j2 k l0 (by simpa using hl0) b hb
   refine⟨L::Ls,⟨by simp [t1],fun k hc h=>(by cases h),fun i x' l' _ hx hl=> ?_,fun i j l1 l2 k hi hj hk hk'=> ?_⟩,hkey,fun i hi=> ?_,by simp [j4],by rw [ZP,j5,Nat.add_mul,Nat.one_mul];omega⟩
   ·cases i with
    |zero=>
     simp at hx hl;subst hx hl
     rw [Nat.zero_mul,List.drop_zero,← List.map_take];exact k1
    |succ i=>
     rw [hdrop]
     exact t3 i x' l' (fun k hc h=>by cases h) (by simpa using hx) (by simpa using hl)
   ·obtain⟨ids1,q1,i1,hi1,e1,he1,hb1⟩:=hkey i l1 hi k hk
    obtain⟨ids2,q2,i2,hi2,e2,he2,hb2⟩:=hkey j l2 hj k hk'
    have:=h.hi _ _ _ _ k he1 he2 hb1 hb2
    subst this
    have hn: ∀ (L:List (List Nat)) (i j:Nat) (a b:List Nat) (x:Nat),(sL L).Nodup→L[i]? =some a→L[j]? =some b→x∈a→x∈b→i=j:=by
     intro L
     induction L with
     |nil=>intro i j a b x _ h;simp at h
     |cons u r ih=>
      intro i j a b x hn ha hb hxa hxb
      simp only [sL]at hn
      obtain⟨n1,n2,n3⟩:=List.nodup_append.1 hn
      cases i with
      |zero=>
       cases j with
       |zero=>rfl
       |succ j=>
        simp at ha hb;subst ha
        exact(n3 x hxa x (rC.2 ⟨j,b,hb,hxb⟩) rfl).elim
      |succ i=>
       cases j with
       |zero=>
        simp at ha hb;subst hb
        exact(n3 x hxb x (rC.2 ⟨i,a,ha,hxa⟩) rfl).elim
       |succ j=>
        simp at ha hb
        rw [ih i j a b x n2 ha hb hxa hxb]
    exact hn (l::m) i j ids1 ids2 i1 (by simpa [sL] using hd) q1 q2 hi1 hi2
   ·simp only [sL,List.mem_append]at hi
    rcases hi with hi | hi
    ·exact k3 i hi
    ·exact j3 i hi
  ·cases hc'
theorem Hp.toTree(h:Hp B ρ ent used w){ρ':Nm}{w':World}{X:Nat→Prop}{G:List Nat}{id:Nat}{new:List Nat}{e:TypeId}{t:CTy}{xs:List (E t)}{ho:Option (Nat×List Cell)}{cs:List Value}{Ls:List (List Nat)}
  (hc:Chg w w' X) (NL: ∀ i,used i=true→ρ' i=ρ i) (Kw:ρ'.mem=ρ.mem) (hfp: ∀ i,i≠id→ρ'.fp i=ρ.fp i) (hG: ∀ g∈G,used g=true)
  (lI:dg used new id=true) (Ou:(Entry.tree e t xs ho).inU (dg used new))
  (hX: ∀ k,X k→ ∃ g,(g=id∨g∈G)∧ ∃ e0,ent g=some e0∧k∈e0.ob ρ g)
  (hb: ∀ b,b∈lj (ρ' id)++sL Ls→w.heap.size≤b∨ ∃ g,(g=id∨g∈G)∧ ∃ e0,ent g=some e0∧b∈e0.ob ρ g)
  (uX:Gl w' e t.size (ρ' id) xs.length cs) (xO:VA w' ρ' t cs xs Ls ho) (hf:ρ'.fp id=sL Ls) (hdj: ∀ b∈lj (ρ' id),b∉sL Ls):
  Ext B used ρ ρ'∧Hp B ρ' (bG ent ((id,.tree e t xs ho)::TJ G)) (dg used new) w':=by
 have Xx: ∀ i x,look? ((id,Entry.tree e t xs ho)::TJ G) i=some x→(i=id∧x= .tree e t xs ho)∨(i≠id∧i∈G∧x= .gone):=by
  intro i x hl
  simp only [look?]at hl
  cases hq:Nat.beq id i with
  |true=>simp [hq]at hl;exact .inl ⟨(Nat.eq_of_beq_eq_true hq).symm,hl.symm⟩
  |false=>
   simp only [hq,cond_false]at hl
   obtain⟨h1,h2⟩:=look?_gone hl
   exact .inr ⟨fun he=>by subst he;simp at hq,h1,h2⟩
 have QG: ∀ b,(∃ g,(g=id∨g∈G)∧ ∃ e0,ent g=some e0∧b∈e0.ob ρ g)→Was ent ρ ((id,Entry.tree e t xs ho)::TJ G) b:=by
  rintro b ⟨g,hg,e0,h1,h2⟩
  cases hq:Nat.beq id g with
  |true=>
   have:=Nat.eq_of_beq_eq_true hq;subst this
   exact⟨id,e0,_,h1,h2,look?_same _ _ _⟩
  |false=>
   rcases hg with rfl | hg
   ·simp at hq
   ·exact⟨g,e0,.gone,h1,h2,by simp only [look?,hq,cond_false];exact look?_gone_mem hg⟩
 refine h.chg hc NL (fun _ _ hb=>by rw [Kw];exact hb) (fun k hk=>QG k (hX k hk)) (fun _ _ hb=> .inl (by rw [← Kw];exact hb)) (fun i x hl=> ?_) (fun i x b hl hb'=> ?_) (fun i i' x x' b hl hl' hb1 hb2=> ?_) (fun i _ hl=> ?_)
 ·rcases Xx i x hl with⟨rfl,rfl⟩ | ⟨_,hg,rfl⟩
  ·refine⟨?_,lI,Ou⟩
   refine⟨cs,Ls,uX,xO,hf,by rw [hf];exact hdj,fun b hb'=> ?_⟩
   rw [hf]at hb'
   rw [Kw]
   rcases hb b hb' with h6 | ⟨g,_,e0,h1,h2⟩
   ·exact h.fresh_none h6
   ·exact(Entry.ob_lt (h.he g e0 h1).1 h2).2
  ·exact⟨trivial,jF _ (hG _ hg),trivial⟩
 ·rcases Xx i x hl with⟨rfl,rfl⟩ | ⟨_,_,rfl⟩
  ·simp only [Entry.ob,hf]at hb'
   exact(hb b hb').imp id (QG b)
  ·cases hb'
 ·rcases Xx i x hl with⟨rfl,rfl⟩ | ⟨_,_,rfl⟩
  ·rcases Xx i' x' hl' with⟨rfl,rfl⟩ | ⟨_,_,rfl⟩
   ·rfl
   ·cases hb2
  ·cases hb1
 ·refine hfp i fun he=> ?_
  subst he
  rw [look?_same]at hl;cases hl
end
def GA:(t:CTy)→E t→Nat→List (Nat×Entry)
 | .pair a b,p,n=>GA a p.1 n++GA b p.2 (n + a.nsl)
 | .sl e t,xs,n=> [(n,.row true e t xs)]
 |_,_,_=> []
theorem zO.length{w:World}: ∀ {t:CTy} {cs:List Value} {x:E t} {L:List Nat},zO w t cs x L→cs.length=t.size
 | .int _,_,_,_,h=>by simp only [zO]at h;rw [h.1];rfl
 | .bool,_,_,_,h=>by simp only [zO]at h;rw [h.1];rfl
 | .str,_,_,_,h=>by simp only [zO]at h;rw [h.1];rfl
 | .pair a b,_,_,_,h=>by
  simp only [zO]at h
  obtain⟨c1,c2,_,_,rfl,_,h1,h2,_⟩:=h
  rw [List.length_append,h1.length,h2.length];rfl
 | .sl _ _,_,_,_,h=>by simp only [zO]at h;obtain⟨v,ds,rfl,_⟩:=h;rfl
theorem XA{w:World}: ∀ (t:CTy) (cs:List Value) (x:E t) (L:List Nat) (n:Nat) (ρ:Nm),zO w t cs x L→
  ∃ ρ':Nm,ρ'.mem=ρ.mem∧ρ'.fp=ρ.fp∧(∀ i,i < n∨n + t.nsl≤i→ρ' i=ρ i)∧cs=(yc t x n).map (Cell.conc ρ')∧
   (∀ i e,look? (GA t x n) i=some e→(∃ e0 t0 xs ds,e= .row true e0 t0 xs∧Gl w e0 t0.size (ρ' i) xs.length ds∧qm (fun _=>none) t0 ds xs∧ ∀ b∈lj (ρ' i),b∈L)∧n≤i∧i < n + t.nsl)∧
   (∀ i j e e' b,look? (GA t x n) i=some e→look? (GA t x n) j=some e'→b∈lj (ρ' i)→b∈lj (ρ' j)→i=j)
 | .int k,cs,x,L,n,ρ,h=>⟨ρ,rfl,rfl,fun _ _=>rfl,by simp only [zO]at h;rw [h.1];rfl,fun i e he=>by simp [GA,look?]at he,fun i j e e' b he=>by simp [GA,look?]at he⟩
 | .bool,cs,x,L,n,ρ,h=>⟨ρ,rfl,rfl,fun _ _=>rfl,by simp only [zO]at h;rw [h.1];rfl,fun i e he=>by simp [GA,look?]at he,fun i j e e' b he=>by simp [GA,look?]at he⟩
 | .str,cs,x,L,n,ρ,h=>⟨ρ,rfl,rfl,fun _ _=>rfl,by simp only [zO]at h;rw [h.1];rfl,fun i e he=>by simp [GA,look?]at he,fun i j e e' b he=>by simp [GA,look?]at he⟩
 | .sl e t,cs,xs,L,n,ρ,h=>by
  simp only [zO]at h
  obtain⟨v,ds,hv,hL,hf,ho,hr⟩:=h
  have hs:=tW ho
  refine⟨upd ρ n v,rfl,rfl,fun i hi=> ?_,?_,fun i e' he=> ?_,fun i j e1 e2 b h1 h2 _ _=> ?_⟩
  ·have:Nat.beq i n=false:=by
    cases hb:Nat.beq i n with
    |false=>rfl
    |true=>have:=Nat.eq_of_beq_eq_true hb;simp only [CTy.nsl]at hi;omega
   simp only [Nm.of,upd,this,cond_false]
  ·rw [hv];simp [yc,Cell.conc,Nm.of,upd,hs]
  ·simp only [GA]at he
   obtain⟨rfl,rfl⟩:=look?_one he
   refine⟨⟨e,t,xs,ds,rfl,?_,hr,?_⟩,Nat.le_refl _,by simp [CTy.nsl]⟩
   ·rw [lF _ _ hs];exact ho
   ·rw [lF _ _ hs,hL];exact fun _ h=>h
  ·simp only [GA]at h1 h2
   exact(look?_one h1).1.trans (look?_one h2).1.symm
 | .pair a b,cs,p,L,n,ρ,h=>by
  simp only [zO]at h
  obtain⟨c1,c2,L1,L2,e,rfl,h1,h2,h3⟩:=h
  obtain⟨ρ1,m1,f1,k1,e1,r1,d1⟩:=XA a c1 p.1 L1 n ρ h1
  obtain⟨ρ2,m2,f2,k2,e2,r2,d2⟩:=XA b c2 p.2 L2 (n + a.nsl) ρ1 h2
  have hk: ∀ i,i < n + a.nsl→ρ2 i=ρ1 i:=fun i hi=>k2 i (.inl hi)
  have hr: ∀ i e',look? (GA (.pair a b) p n) i=some e'→(∃ e0 t0 xs ds,e'= .row true e0 t0 xs∧Gl w e0 t0.size (ρ2 i) xs.length ds∧qm (fun _=>none) t0 ds xs∧((i < n + a.nsl∧look? (GA a p.1 n) i=some e'∧ ∀ b∈lj (ρ2 i),b∈L1)∨(n + a.nsl≤i∧look? (GA b p.2 (n + a.nsl)) i=some e'∧ ∀ b∈lj (ρ2 i),b∈L2)))∧n≤i∧i < n + (CTy.pair a b).nsl:=by
   intro i e' he
   simp only [GA]at he
   rw [look?_append]at he
   cases hl:look? (GA a p.1 n) i with
   |some e0=>
    simp [hl]at he;subst he
    obtain⟨⟨e1,t1,xs,ds,he1,hr,hr2,hr3⟩,hlo,hhi⟩:=r1 i _ hl
    refine⟨⟨e1,t1,xs,ds,he1,by rw [hk i hhi];exact hr,hr2,.inl ⟨hhi,rfl,by rw [hk i hhi];exact hr3⟩⟩,hlo,by simp only [CTy.nsl];omega⟩
   |none=>
    simp [hl]at he
    obtain⟨⟨e1,t1,xs,ds,he1,hr,hr2,hr3⟩,hlo,hhi⟩:=r2 i _ he
    exact⟨⟨e1,t1,xs,ds,he1,hr,hr2,.inr ⟨hlo,he,hr3⟩⟩,by omega,by simp only [CTy.nsl];omega⟩
  refine⟨ρ2,m2.trans m1,f2.trans f1,fun i hi=> ?_,?_,fun i e' he=> ?_,fun i j e1 e2 b he he' hb hb'=> ?_⟩
  ·simp only [CTy.nsl]at hi
   rw [k2 i (by omega),k1 i (by omega)]
  ·rw [e,e1,e2]
   simp only [yc,List.map_append]
   congr 1
   refine(wb (U:=fun i=>Nat.ble n i&&Nat.blt i (n + a.nsl)) (fun i hi=>hk i ?_) (ZB a p.1 n)).symm
   simp only [Bool.and_eq_true,Nat.ble_eq,Nat.blt]at hi;omega
  ·obtain⟨⟨e1,t1,xs,ds,he1,hr1,hr2,hr3⟩,hlo,hhi⟩:=hr i e' he
   refine⟨⟨e1,t1,xs,ds,he1,hr1,hr2,fun b hb=> ?_⟩,hlo,hhi⟩
   rcases hr3 with⟨_,_,q⟩ | ⟨_,_,q⟩
   ·exact List.mem_append_left _ (q b hb)
   ·exact List.mem_append_right _ (q b hb)
  ·obtain⟨⟨_,_,_,_,_,_,_,q1⟩,_⟩:=hr i e1 he
   obtain⟨⟨_,_,_,_,_,_,_,q2⟩,_⟩:=hr j e2 he'
   rcases q1 with⟨u1,v1,w1⟩ | ⟨u1,v1,w1⟩ <;> rcases q2 with⟨u2,v2,w2⟩ | ⟨u2,v2,w2⟩
   ·exact d1 i j e1 e2 b v1 v2 (by rw [← hk i u1];exact hb) (by rw [← hk j u2];exact hb')
   ·exact(h3 b (w1 b hb) (w2 b hb')).elim
   ·exact(h3 b (w2 b hb') (w1 b hb)).elim
   ·exact d2 i j e1 e2 b v1 v2 hb hb'
theorem zO.one{w:World}: ∀ {t:CTy} {cs:List Value} {x:E t} {L:List Nat},zO w t cs x L→ ∀ u∈cs,u.oneCell'=true
 | .int _,_,_,_,h,u,hu=>by simp only [zO]at h;rw [h.1]at hu;simp at hu;subst hu;rfl
 | .bool,_,_,_,h,u,hu=>by simp only [zO]at h;rw [h.1]at hu;simp at hu;subst hu;rfl
 | .str,_,_,_,h,u,hu=>by simp only [zO]at h;rw [h.1]at hu;simp at hu;subst hu;rfl
 | .pair _ _,_,_,_,h,u,hu=>by
  simp only [zO]at h
  obtain⟨c1,c2,_,_,rfl,_,h1,h2,_⟩:=h
  rcases List.mem_append.1 hu with hu | hu
  ·exact h1.one u hu
  ·exact h2.one u hu
 | .sl _ _,_,_,_,h,u,hu=>by
  simp only [zO]at h
  obtain⟨v,ds,rfl,_,_,ho,_⟩:=h
  simp at hu;subst hu
  rcases ho.2 with⟨hz,_⟩ | ⟨_,_,_,rfl,_⟩
  ·rcases hz with rfl | ⟨_,rfl⟩ <;> rfl
  ·rfl
theorem VA.one{w:World}{ρ:Nm}{t:CTy}{cs:List Value}{xs:List (E t)}{Ls:List (List Nat)}(h:VA w ρ t cs xs Ls none)(hl:cs.length=xs.length * t.size): ∀ u∈cs,u.oneCell'=true:=by
 intro u hu
 obtain⟨j,hj⟩:=List.mem_iff_getElem?.1 hu
 have gV:=(List.getElem?_eq_some_iff.1 hj).1
 have hp:=DR t
 rw [hl]at gV
 have hi:j / t.size < xs.length:=Nat.div_lt_of_lt_mul (by rw [Nat.mul_comm];exact gV)
 refine(h.2.2.1 _ _ _ (fun _ _ h=>by cases h) (List.getElem?_eq_getElem hi) (List.getElem?_eq_getElem (by rw [h.1];exact hi))).one u ?_
 refine List.mem_iff_getElem?.2 ⟨j % t.size,?_⟩
 rw [List.getElem?_take,if_pos (Nat.mod_lt _ hp),List.getElem?_drop,Nat.mul_comm,Nat.div_add_mod]
 exact hj
theorem ah9{w:World}{e e':TypeId}{z n:Nat}{v:Value}{cs cs':List Value}(h:Gl w e z v n cs)(h':Gl w e' z v n cs'):cs=cs':=by
 have nilOf: ∀ {l:List Value},l.length=n * z→n=0→l= []:=fun hl hn=>List.length_eq_zero_iff.1 (by rw [hl,hn,Nat.zero_mul])
 rcases h.2 with⟨_,hn⟩ | ⟨g,cap,cur,hv,h0,hg,Nc,hcm,Nd,htk⟩
 ·rw [nilOf h.1 hn,nilOf h'.1 hn]
 ·rcases h'.2 with⟨_,hn⟩ | ⟨g',cap',cur',hv',h0',hg',hle',hcm',hsz',htk'⟩
  ·rw [nilOf h.1 hn,nilOf h'.1 hn]
  ·rw [hv]at hv'
   simp only [Value.slice.injEq,Option.some.injEq,Addr.mk.injEq]at hv'
   obtain⟨⟨rfl,_⟩,_,_⟩:=hv'
   rw [hg]at hg';cases hg'
   rw [← htk,← htk']
theorem aap{α:Type}: ∀ (l r:List (List α)),sL (l++r)=sL l++sL r
 | [],r=>rfl
 |a::l,r=>by simp only [List.cons_append,sL,aap l r,List.append_assoc]
theorem VA.append{w:World}{ρ:Nm}{t:CTy}{cs ds:List Value}{xs ys:List (E t)}{Ls Ms:List (List Nat)}(h:VA w ρ t cs xs Ls none)(h':VA w ρ t ds ys Ms none)(hl:cs.length=xs.length * t.size)
  (hd: ∀ b∈sL Ls,b∉sL Ms):VA w ρ t (cs++ds) (xs++ys) (Ls++Ms) none:=by
 refine⟨by simp [h.1,h'.1],fun k hc hh=>(by cases hh),fun i x l _ hx hll=> ?_,fun i j l1 l2 k hi hj hk hk'=> ?_⟩
 ·by_cases hi:i < xs.length
  ·rw [List.getElem?_append_left hi]at hx
   rw [List.getElem?_append_left (by rw [h.1];exact hi)]at hll
   have Nc:=AJ (z:=t.size) hi
   rw [List.drop_append_of_le_length (by rw [hl];omega),List.take_append_of_le_length (by rw [List.length_drop,hl];omega)]
   exact h.2.2.1 i x l (fun _ _ h=>by cases h) hx hll
  ·rw [List.getElem?_append_right (by omega)]at hx
   rw [List.getElem?_append_right (by rw [h.1];omega),h.1]at hll
   have hm:i * t.size=xs.length * t.size + (i - xs.length) * t.size:=by rw [← Nat.add_mul];congr 1;omega
   rw [hm,← hl,List.drop_append,List.drop_eq_nil_of_le (by omega),List.nil_append,Nat.add_sub_cancel_left]
   exact h'.2.2.1 _ x l (fun _ _ h=>by cases h) hx hll
 ·have side: ∀ (i:Nat) l,(Ls++Ms)[i]? =some l→(i < Ls.length∧Ls[i]? =some l)∨(Ls.length≤i∧Ms[i - Ls.length]? =some l):=by
   intro i l hi
   by_cases gV:i < Ls.length
   ·rw [List.getElem?_append_left gV]at hi;exact .inl ⟨gV,hi⟩
   ·rw [List.getElem?_append_right (by omega)]at hi;exact .inr ⟨by omega,hi⟩
  rcases side i l1 hi with⟨a1,a2⟩ | ⟨a1,a2⟩ <;> rcases side j l2 hj with⟨b1,b2⟩ | ⟨b1,b2⟩
  ·exact h.2.2.2 i j l1 l2 k a2 b2 hk hk'
  ·exact(hd k (rC.2 ⟨_,_,a2,hk⟩) (rC.2 ⟨_,_,b2,hk'⟩)).elim
  ·exact(hd k (rC.2 ⟨_,_,b2,hk'⟩) (rC.2 ⟨_,_,a2,hk⟩)).elim
  ·have:=h'.2.2.2 _ _ l1 l2 k a2 b2 hk hk';omega
theorem VA.one1{w:World}{ρ:Nm}{t:CTy}{cs:List Value}{x:E t}{L:List Nat}(h:zO w t cs x L):VA w ρ t cs [x] [L] none:=by
 refine⟨rfl,fun k hc hh=>(by cases hh),fun i y l _ hy hl=> ?_,fun i j l l' k hi hj _ _=> ?_⟩
 ·cases i with
  |zero=>simp at hy hl;subst hy hl;rw [Nat.zero_mul,List.drop_zero,← h.length,List.take_length];exact h
  |succ i=>simp at hy
 ·have h1:=(List.getElem?_eq_some_iff.1 hi).1
  have h2:=(List.getElem?_eq_some_iff.1 hj).1
  simp at h1 h2;omega
theorem VA.nil(w:World)(ρ:Nm)(t:CTy):VA w ρ t [] [] [] none:=⟨rfl,fun k hc hh=>(by cases hh),fun i y l _ hy hl=>(by simp at hy),fun i j l l' k hi hj _ _=>(by simp at hi)⟩
theorem aj4: ∀ (n:Nat),sL (List.replicate n ([]:List Nat))= []
 |0=>rfl
 |n + 1=>by rw [List.replicate_succ];simp only [sL,aj4 n,List.append_nil]
section
variable{B:Base}{ρ:Nm}{ent:Nat→Option Entry}{used:Nat→Bool}{w:World}
theorem anh(h:Hp B ρ ent used w){t:CTy}{cs:List Cell}{x:E t}{ids:List Nat}(hc:Hs (fun _=>none) t cs=some (x,ids))(w':World):zO w' t (cs.map (Cell.conc ρ)) x []:=by
 have h0:Hp B ρ (fun _=>none) used w:=⟨fun id e he=>(by cases he),fun id id' e e' b he=>(by cases he),h.hf⟩
 have hids:ids= []:=by
  cases ids with
  |nil=>rfl
  |cons i r=>obtain⟨_,_,_,hh⟩:=Xw hc i (by simp);cases hh
 subst hids
 obtain⟨L,d1,d2,_⟩:=QM h0 t cs x [] hc List.nodup_nil
 have hL:L= []:=by
  cases L with
  |nil=>rfl
  |cons b r=>obtain⟨i,hi,_⟩:=d2 b (by simp);cases hi
 subst hL
 exact d1.keep fun b hb=>(by cases hb)
theorem Hp.treeNew(h:Hp B ρ ent used w){nid:Nat}(Xc:used nid=false){e:TypeId}{t:CTy}{xs:List (E t)}{Ls:List (List Nat)}{G:List Nat}{cs:List Value}{w':World}{v:Value}(hg:w.grownBy w' none)
  (uX:Gl w' e t.size v xs.length cs) (xO:VA w ρ t cs xs Ls none) (hG: ∀ g∈G,used g=true) (hb: ∀ b∈lj v,w.heap.size≤b) (hL: ∀ b∈sL Ls,∃ g∈G,∃ e0,ent g=some e0∧b∈e0.ob ρ g):
  ∃ ρ':Nm,ρ' nid=v∧Ext B used ρ ρ'∧Hp B ρ' (bG ent ((nid,.tree e t xs none)::TJ G)) (dg used [nid]) w':=by
 have NL: ∀ i,used i=true→upd ρ nid v i=ρ i:=Ph Xc ρ v
 let ρ':Nm:=⟨(upd ρ nid v).nm,ρ.mem,fun i=>bif Nat.beq i nid then sL Ls else ρ.fp i⟩
 have hv:ρ' nid=v:=lF ρ nid (tW uX)
 have gV: ∀ b∈sL Ls,b < w.heap.size:=fun b hb=>xO.blk b hb
 have hc:=Chg.grown hg
 have:=h.toTree (ρ':=ρ') (w':=w') (G:=G) (id:=nid) (new:= [nid]) (e:=e) (t:=t) (xs:=xs) (ho:=none) (cs:=cs) (Ls:=Ls)
  hc NL rfl (fun i hi'=> ?_) hG (by simp [dg,memN]) trivial (fun k hk=>by cases hk) (fun b hb'=> ?_) (by rw [hv];exact uX)
  (xO.keep (fun b hb'=>hc.block b (gV b hb') (fun h=>by cases h)) (fun _ _ h=>by cases h))
  (by show (bif Nat.beq nid nid then _ else _)=_;simp) (fun b h1 h2=> ?_)
 ·exact⟨ρ',hv,this.1,this.2⟩
 ·show (bif Nat.beq i nid then _ else ρ.fp i)=ρ.fp i
  cases hq:Nat.beq i nid with
  |false=>rfl
  |true=>exact(hi' (Nat.eq_of_beq_eq_true hq)).elim
 ·rw [hv]at hb'
  rcases List.mem_append.1 hb' with h1 | h1
  ·exact .inl (hb b h1)
  ·obtain⟨g,hg,r⟩:=hL b h1;exact .inr ⟨g,.inr hg,r⟩
 ·rw [hv]at h1
  have:=hb b h1
  have:=gV b h2
  omega
theorem ak8{used:Nat→Bool}{l:List Nat}{i:Nat}(h:memN l i=true):dg used l i=true:=by simp [dg,h]
theorem Hp.treeOpen(h:Hp B ρ ent used w){id:Nat}{e:TypeId}{t:CTy}{xs:List (E t)}(he:ent id=some (.tree e t xs none)){k:Nat}{x:E t}(hx:xs[k]? =some x){nid:Nat}(Xc: ∀ i∈bm nid t.nsl,used i=false):
  ∃ ρ':Nm,Ext B used ρ ρ'∧ρ'.mem=ρ.mem∧Hp B ρ' (bG ent ((id,.tree e t xs (some (k,yc t x nid)))::GA t x nid)) (dg used (bm nid t.nsl)) w:=by
 obtain⟨⟨cs,Ls,h1,⟨t1,t2,t3,t4⟩,h3,h4,h5⟩,lI,_⟩:=h.he _ _ he
 have hk:k < xs.length:=(List.getElem?_eq_some_iff.1 hx).1
 obtain⟨l,hl⟩: ∃ l,Ls[k]? =some l:=⟨_,List.getElem?_eq_getElem (by omega)⟩
 have hd:=t3 k x l (fun _ _ h=>by cases h) hx hl
 obtain⟨ρ1,m1,f1,k1,e1,r1,d1⟩:=XA t _ x l nid ρ hd
 have Kw: ∀ i,i∈bm nid t.nsl↔nid≤i∧i < nid + t.nsl:=fun i=>by
  rw [← vB]
  constructor
  ·intro hi
   have: ∀ (l:List Nat),i∈l→memN l i=true:=by
    intro l
    induction l with
    |nil=>intro h;cases h
    |cons a r ih=>
     intro h
     simp only [memN]
     cases hb:Nat.beq a i with
     |true=>rfl
     |false=>
      rcases List.mem_cons.1 h with rfl | h
      ·simp at hb
      ·exact ih h
   exact this _ hi
  ·intro hi
   have: ∀ (l:List Nat),memN l i=true→i∈l:=by
    intro l
    induction l with
    |nil=>intro h;cases h
    |cons a r ih=>
     intro h
     simp only [memN]at h
     cases hb:Nat.beq a i with
     |true=>have:=Nat.eq_of_beq_eq_true hb;simp [this]
     |false=>rw [hb]at h;exact List.mem_cons_of_mem _ (ih h)
   exact this _ hi
 have NL: ∀ i,used i=true→ρ1 i=ρ i:=fun i hi=>k1 i (by
  apply Classical.byContradiction
  intro hn
  have:i∈bm nid t.nsl:=(Kw i).2 (by omega)
  rw [Xc i this]at hi;cases hi)
 let ρ':Nm:=⟨ρ1.nm,ρ1.mem,fun i=>bif Nat.beq i id then sL (Ls.set k [])else ρ.fp i⟩
 have hρ: ∀ i,ρ' i=ρ1 i:=fun _=>rfl
 have hcon: ∀ c:Cell,c.conc ρ'=c.conc ρ1:=fun c=>Cell.conc_congr (U:=fun _=>true) (fun _ _=>rfl) (by cases c <;> simp [Cell.inU])
 have aed: ∀ b,b∈sL (Ls.set k [])→b∈sL Ls:=by
  intro b hb
  obtain⟨j,l',hj,hb'⟩:=rC.1 hb
  rcases ZG hj with⟨_,rfl⟩ | ⟨_,hj⟩
  ·cases hb'
  ·exact rC.2 ⟨j,l',hj,hb'⟩
 have hout: ∀ b∈l,b∉sL (Ls.set k []):=by
  intro b hb hb2
  obtain⟨j,l',hj,hb'⟩:=rC.1 hb2
  rcases ZG hj with⟨_,rfl⟩ | ⟨Vf,hj⟩
  ·cases hb'
  ·exact Vf (t4 k j l l' b hl hj hb hb').symm
 have hfid:ρ'.fp id=sL (Ls.set k []):=by show (bif Nat.beq id id then _ else _)=_;simp
 have hlk: ∀ i x',look? ((id,Entry.tree e t xs (some (k,yc t x nid)))::GA t x nid) i=some x'→(i=id∧x'= .tree e t xs (some (k,yc t x nid)))∨(i≠id∧look? (GA t x nid) i=some x'):=by
  intro i x' hl
  simp only [look?]at hl
  cases hq:Nat.beq id i with
  |true=>simp [hq]at hl;exact .inl ⟨(Nat.eq_of_beq_eq_true hq).symm,hl.symm⟩
  |false=>
   simp only [hq,cond_false]at hl
   exact .inr ⟨fun he=>by subst he;simp at hq,hl⟩
 have QG: ∀ b,b∈lj (ρ id)++ρ.fp id→Was ent ρ ((id,Entry.tree e t xs (some (k,yc t x nid)))::GA t x nid) b:=fun b hb=>⟨id,_,_,he,hb,look?_same _ _ _⟩
 have hfpl: ∀ b∈l,b∈ρ.fp id:=fun b hb=>by rw [h3];exact rC.2 ⟨k,l,hl,hb⟩
 have oi:=h.chg (ρ':=ρ') (es:=(id,.tree e t xs (some (k,yc t x nid)))::GA t x nid) (new:=bm nid t.nsl) (Chg.refl w (fun _=>False)) (fun i hi=>(hρ i).trans (NL i hi)) (fun b o hb=>by show ρ1.mem b=some o;rw [m1];exact hb) (fun _ hx=>hx.elim)
  (fun b o hb=> .inl (by rw [← m1];exact hb)) (fun i x' hl'=> ?_) (fun i x' b hl' hb=> ?_) (fun i j x1 x2 b hl1 hl2 hb1 hb2=> ?_) (fun i hi hl'=> ?_)
 ·exact⟨ρ',oi.1,m1,oi.2⟩
 ·rcases hlk i x' hl' with⟨rfl,rfl⟩ | ⟨Vf,hl2⟩
  ·refine⟨?_,jF _ lI,fun c hc=> ?_⟩
   ·refine⟨cs,Ls.set k [],?_,⟨by simp [t1],fun j hc hj=> ?_,fun j y l' hj hy hl2=> ?_,fun a b l1 l2 q ha hb hq1 hq2=> ?_⟩,hfid,fun b hb hb2=> ?_,fun b hb=> ?_⟩
    ·rw [hρ,NL i lI];exact h1
    ·cases hj
     refine⟨hk,by simp [t1,hk],?_⟩
     rw [e1]
     exact(List.map_congr_left fun c _=>hcon c).symm
    ·have Vf:k≠j:=fun hkj=>hj k _ rfl hkj.symm
     rw [List.getElem?_set_ne Vf]at hl2
     exact t3 j y l' (fun _ _ h=>by cases h) hy hl2
    ·have hg: ∀ (a:Nat) l1,(Ls.set k [])[a]? =some l1→q∈l1→Ls[a]? =some l1:=by
      intro a l1 ha hq
      rcases ZG ha with⟨_,rfl⟩ | ⟨_,ha⟩
      ·cases hq
      ·exact ha
     exact t4 a b l1 l2 q (hg a l1 ha hq1) (hg b l2 hb hq2) hq1 hq2
    ·rw [hρ,NL i lI]at hb
     rw [hfid]at hb2
     exact h4 b hb (by rw [h3];exact aed b hb2)
    ·rw [hρ,NL i lI,hfid]at hb
     show B.mem b=none∧ρ1.mem b=none
     rw [m1]
     refine h5 b ?_
     rcases List.mem_append.1 hb with hb | hb
     ·exact List.mem_append_left _ hb
     ·exact List.mem_append_right _ (by rw [h3];exact aed b hb)
   ·refine Cell.inU_mono (fun j hj=> ?_) (ZB t x nid c hc)
    refine ak8 (vB.2 ?_)
    simp only [Bool.and_eq_true,Nat.ble_eq,Nat.blt]at hj
    omega
  ·obtain⟨⟨e0,t0,ys,ds,rfl,q1,q2,q3⟩,hlo,hhi⟩:=r1 i _ hl2
   refine⟨⟨ds,q1,qm.mono (fun _ _ h=>by cases h) q2,fun b hb=> ?_⟩,ak8 (vB.2 ⟨hlo,hhi⟩),trivial⟩
   show B.mem b=none∧ρ1.mem b=none
   rw [m1]
   exact h5 b (List.mem_append_right _ (hfpl b (q3 b hb)))
 ·rcases hlk i x' hl' with⟨rfl,rfl⟩ | ⟨Vf,hl2⟩
  ·simp only [Entry.ob]at hb
   rw [hρ,NL i lI,hfid]at hb
   refine .inr (QG b ?_)
   rcases List.mem_append.1 hb with hb | hb
   ·exact List.mem_append_left _ hb
   ·exact List.mem_append_right _ (by rw [h3];exact aed b hb)
  ·obtain⟨⟨e0,t0,ys,ds,rfl,q1,q2,q3⟩,_⟩:=r1 i _ hl2
   exact .inr (QG b (List.mem_append_right _ (hfpl b (q3 b hb))))
 ·have aV: ∀ j x2,look? (GA t x nid) j=some x2→b∈x2.ob ρ' j→b∈lj (ρ' id)++ρ'.fp id→False:=by
   intro j x2 hl2 hb2 hb1
   obtain⟨⟨e0,t0,ys,ds,rfl,q1,q2,q3⟩,_⟩:=r1 j _ hl2
   have hbl:=q3 b hb2
   rw [hρ,NL id lI,hfid]at hb1
   rcases List.mem_append.1 hb1 with hb1 | hb1
   ·exact h4 b hb1 (hfpl b hbl)
   ·exact hout b hbl hb1
  rcases hlk i x1 hl1 with⟨rfl,rfl⟩ | ⟨Vf,hl1'⟩
  ·rcases hlk j x2 hl2 with⟨rfl,rfl⟩ | ⟨Vf,hl2'⟩
   ·rfl
   ·exact(aV j x2 hl2' hb2 hb1).elim
  ·rcases hlk j x2 hl2 with⟨rfl,rfl⟩ | ⟨Vf,hl2'⟩
   ·exact(aV i x1 hl1' hb1 hb2).elim
   ·obtain⟨⟨_,_,_,_,rfl,_⟩,_⟩:=r1 i _ hl1'
    obtain⟨⟨_,_,_,_,rfl,_⟩,_⟩:=r1 j _ hl2'
    exact d1 i j _ _ b hl1' hl2' hb1 hb2
 ·show (bif Nat.beq i id then _ else ρ.fp i)=ρ.fp i
  cases hq:Nat.beq i id with
  |false=>rfl
  |true=>
   have:=Nat.eq_of_beq_eq_true hq;subst this
   rw [look?_same]at hl';cases hl'
theorem Hp.treeAppend(h:Hp B ρ ent used w){id jd nid:Nat}{e e2:TypeId}{t:CTy}{xs ys:List (E t)}(he:ent id=some (.tree e t xs none))(he2:ent jd=some (.tree e2 t ys none))(Vf:id≠jd)(Xc:used nid=false)
  {w':World} {v':Value} {cs ds:List Value} (hg:Chg w w' (fun k=>k∈lj (ρ id))) (OJ:Gl w e t.size (ρ id) xs.length cs) (hds:Gl w e2 t.size (ρ jd) ys.length ds) (uX:Gl w' e t.size v' (xs++ys).length (cs++ds)) (hb: ∀ b∈lj v',w.heap.size≤b∨b∈lj (ρ id)):
  ∃ ρ':Nm,ρ' nid=v'∧Ext B used ρ ρ'∧Hp B ρ' (bG ent ((nid,.tree e t (xs++ys) none)::TJ [id,jd])) (dg used [nid]) w':=by
 obtain⟨⟨cs1,Ls,p1,p2,p3,p4,p5⟩,lI,_⟩:=h.he _ _ he
 obtain⟨⟨ds1,Ms,q1,q2,q3,q4,q5⟩,hjd,_⟩:=h.he _ _ he2
 obtain rfl:cs1=cs:=ah9 p1 OJ
 obtain rfl:ds1=ds:=ah9 q1 hds
 have hi: ∀ b,b∈lj (ρ id)++ρ.fp id→b∈lj (ρ jd)++ρ.fp jd→False:=fun b h1 h2=>Vf (h.hi _ _ _ _ b he he2 h1 h2)
 have NL: ∀ i,used i=true→upd ρ nid v' i=ρ i:=Ph Xc ρ v'
 let ρ':Nm:=⟨(upd ρ nid v').nm,ρ.mem,fun i=>bif Nat.beq i nid then sL (Ls++Ms)else ρ.fp i⟩
 have hv:ρ' nid=v':=lF ρ nid (tW uX)
 have UT: ∀ b,b∈sL Ls∨b∈sL Ms→w'.heap[b]? =w.heap[b]? ∧b < w.heap.size∧b∉lj (ρ id):=by
  intro b hb'
  have gV:b < w.heap.size:=hb'.elim (p2.blk b) (q2.blk b)
  have hnb:b∉lj (ρ id):=fun hm=>hb'.elim (fun h1=>p4 b hm (by rw [p3];exact h1)) fun h1=>hi b (List.mem_append_left _ hm) (List.mem_append_right _ (by rw [q3];exact h1))
  exact⟨hg.block b gV hnb,gV,hnb⟩
 have:=h.toTree (ρ':=ρ') (w':=w') (G:= [id,jd]) (id:=nid) (new:= [nid]) (e:=e) (t:=t) (xs:=xs++ys) (ho:=none) (cs:=cs1++ds1) (Ls:=Ls++Ms)
  hg NL rfl (fun i hi'=> ?_) (fun g hg'=> ?_) (by simp [dg,memN]) trivial (fun k hk=>⟨id,.inr (by simp),_,he,List.mem_append_left _ hk⟩) (fun b hb'=> ?_) (by rw [hv];exact uX)
  ((p2.keep (ρ':=ρ') (fun b hb'=>(UT b (.inl hb')).1) (fun _ _ h=>by cases h)).append (q2.keep (fun b hb'=>(UT b (.inr hb')).1) (fun _ _ h=>by cases h)) p1.1 fun b h1 h2=>hi b (List.mem_append_right _ (by rw [p3];exact h1)) (List.mem_append_right _ (by rw [q3];exact h2)))
  (by show (bif Nat.beq nid nid then _ else _)=_;simp) (fun b h1 h2=> ?_)
 ·exact⟨ρ',hv,this.1,this.2⟩
 ·show (bif Nat.beq i nid then _ else ρ.fp i)=ρ.fp i
  cases hq:Nat.beq i nid with
  |false=>rfl
  |true=>exact(hi' (Nat.eq_of_beq_eq_true hq)).elim
 ·simp only [List.mem_cons,List.not_mem_nil,or_false]at hg'
  rcases hg' with rfl | rfl
  ·exact lI
  ·exact hjd
 ·rw [hv]at hb'
  rcases List.mem_append.1 hb' with h1 | h1
  ·rcases hb b h1 with h2 | h2
   ·exact .inl h2
   ·exact .inr ⟨id,.inr (by simp),_,he,List.mem_append_left _ h2⟩
  ·rw [aap]at h1
   rcases List.mem_append.1 h1 with h1 | h1
   ·exact .inr ⟨id,.inr (by simp),_,he,List.mem_append_right _ (by rw [p3];exact h1)⟩
   ·exact .inr ⟨jd,.inr (by simp),_,he2,List.mem_append_right _ (by rw [q3];exact h1)⟩
 ·rw [hv]at h1
  rw [aap]at h2
  obtain⟨_,k2,k3⟩:=UT b (List.mem_append.1 h2)
  rcases hb b h1 with h3 | h3
  ·omega
  ·exact k3 h3
theorem Hp.treeName(h:Hp B ρ ent used w){id nid:Nat}{e:TypeId}{t:CTy}{xs:List (E t)}(he:ent id=some (.tree e t xs none))(Xc:used nid=false):
  ∃ ρ':Nm,ρ' nid=ρ id∧ρ' id=ρ id∧Ext B used ρ ρ'∧Hp B ρ' (bG ent ((nid,.tree e t xs none)::TJ [id])) (dg used [nid]) w:=by
 obtain⟨⟨cs,Ls,p1,p2,p3,p4,p5⟩,lI,_⟩:=h.he _ _ he
 have NL: ∀ i,used i=true→upd ρ nid (ρ id) i=ρ i:=Ph Xc ρ (ρ id)
 let ρ':Nm:=⟨(upd ρ nid (ρ id)).nm,ρ.mem,fun i=>bif Nat.beq i nid then sL Ls else ρ.fp i⟩
 have hv:ρ' nid=ρ id:=lF ρ nid (Qm _)
 have:=h.toTree (ρ':=ρ') (w':=w) (X:=fun _=>False) (G:= [id]) (id:=nid) (new:= [nid]) (e:=e) (t:=t) (xs:=xs) (ho:=none) (cs:=cs) (Ls:=Ls)
  (Chg.refl w _) NL rfl (fun i hi'=> ?_) (fun g hg'=> ?_) (by simp [dg,memN]) trivial (fun k hk=>hk.elim) (fun b hb'=> ?_) (by rw [hv];exact p1)
  (p2.keep (fun _ _=>rfl) (fun _ _ h=>by cases h)) (by show (bif Nat.beq nid nid then _ else _)=_;simp) (fun b h1 h2=> ?_)
 ·exact⟨ρ',hv,NL id lI,this.1,this.2⟩
 ·show (bif Nat.beq i nid then _ else ρ.fp i)=ρ.fp i
  cases hq:Nat.beq i nid with
  |false=>rfl
  |true=>exact(hi' (Nat.eq_of_beq_eq_true hq)).elim
 ·simp only [List.mem_cons,List.not_mem_nil,or_false]at hg'
  subst hg';exact lI
 ·rw [hv]at hb'
  exact .inr ⟨id,.inr (by simp),_,he,by simp only [Entry.ob,p3];exact hb'⟩
 ·rw [hv]at h1
  exact p4 b h1 (by rw [p3];exact h2)
theorem Hp.treeFreeze(h:Hp B ρ ent used w){id:Nat}{e:TypeId}{t:CTy}{xs:List (E t)}(he:ent id=some (.tree e t xs none)):
  ∃ ρ':Nm,ρ'.nm=ρ.nm∧ρ'.fp=ρ.fp∧Ext B used ρ ρ'∧(∀ b,(∃ o,ρ'.mem b=some o)→(∃ o,ρ.mem b=some o)∨b∈(Entry.tree e t xs none).ob ρ id)∧(∀ b∈(Entry.tree e t xs none).ob ρ id,∃ o,ρ'.mem b=some o)∧Hp B ρ' (bG ent [(id,.row false e t xs)]) used w:=by
 obtain⟨⟨cs,Ls,p1,p2,p3,p4,p5⟩,lI,_⟩:=h.he _ _ he
 have hob:(Entry.tree e t xs none).ob ρ id=lj (ρ id)++ρ.fp id:=rfl
 have QG: ∀ b∈lj (ρ id)++ρ.fp id,Was ent ρ [(id,.row false e t xs)] b:=fun b hb=>⟨id,_,_,he,hb,look?_same _ _ _⟩
 have gV: ∀ b∈lj (ρ id)++ρ.fp id,b < w.heap.size:=fun b hb=>(Entry.ob_lt (h.he _ _ he).1 hb).1
 let ρ':Nm:=⟨ρ.nm,fun b=>if b∈lj (ρ id)++ρ.fp id then w.heap[b]? else ρ.mem b,ρ.fp⟩
 have hold: ∀ b o,ρ.mem b=some o→ρ'.mem b=some o:=by
  intro b o hb
  show (if b∈lj (ρ id)++ρ.fp id then w.heap[b]? else ρ.mem b)=some o
  split
  ·exact h.hf.dat b o hb
  ·exact hb
 have Ou: ∀ b∈lj (ρ id)++ρ.fp id,ρ'.mem b=w.heap[b]? :=fun b hb=>by
  show (if b∈lj (ρ id)++ρ.fp id then w.heap[b]? else ρ.mem b)=_
  rw [if_pos hb]
 have drep: ∀ (t:CTy) (cs:List Value) (x:E t) (L:List Nat),zO w t cs x L→(∀ b∈L,b∈lj (ρ id)++ρ.fp id)→Rep ρ'.mem t cs x:=by
  intro t
  induction t with
  |int k=>intro cs x L hd _;simp only [zO]at hd;simp only [Rep];exact hd.1
  |bool=>intro cs x L hd _;simp only [zO]at hd;simp only [Rep];exact hd.1
  |str=>intro cs x L hd _;simp only [zO]at hd;simp only [Rep];exact hd.1
  |pair a b iha ihb=>
   intro cs x L hd hL
   simp only [zO]at hd
   obtain⟨c1,c2,L1,L2,e1,rfl,h1,h2,_⟩:=hd
   simp only [Rep]
   exact⟨c1,c2,e1,iha _ _ _ h1 fun b hb=>hL b (List.mem_append_left _ hb),ihb _ _ _ h2 fun b hb=>hL b (List.mem_append_right _ hb)⟩
  |sl e' t' _=>
   intro cs xs L hd hL
   simp only [zO]at hd
   obtain⟨v,ds,rfl,rfl,hf,ho,hr⟩:=hd
   simp only [Rep]
   refine⟨v,rfl,?_⟩
   rcases ho.2 with⟨hz,hn0⟩ | ⟨g,cap,cur,hv,h0,hg,Nc,hcm,Nd,htk⟩
   ·exact .inl ⟨hz,List.length_eq_zero_iff.1 hn0⟩
   ·refine .inr ⟨g,0,cap,cur,e',(0,0),hv,Nc,hcm,?_,fun j x hx=> ?_⟩
    ·rw [Ou g (hL g (by rw [hv,xS h0];simp))];exact hg
    ·have:=Rep.mono (H':=ρ'.mem) (fun _ _ h=>by cases h) _ _ _ (hr.2 j x hx)
     rw [← htk]at this
     have gV:=AJ (z:=t'.size) (List.getElem?_eq_some_iff.1 hx).1
     rw [List.drop_take,List.take_take]at this
     rw [Nat.zero_add]
     rwa [Nat.min_eq_left (by omega)]at this
 have oi:=h.chg (ρ':=ρ') (es:= [(id,.row false e t xs)]) (new:= []) (Chg.refl w (fun _=>False)) (fun _ _=>rfl) hold (fun _ hx=>hx.elim) (fun b o hb=> ?_) (fun i x hl=> ?_) (fun i x b hl hb'=> ?_) (fun i i' x x' b hl hl' hb1 hb2=> ?_)
 ·refine⟨ρ',rfl,rfl,oi.1,fun b ⟨o,hb⟩=> ?_,fun b hb=> ?_,oi.2⟩
  ·have hb:(if b∈lj (ρ id)++ρ.fp id then w.heap[b]? else ρ.mem b)=some o:=hb
   split at hb
   ·rename_i hm;exact .inr hm
   ·exact .inl ⟨o,hb⟩
  ·rw [Ou b hb];exact⟨_,Array.getElem?_eq_getElem (gV b hb)⟩
 ·have hb:(if b∈lj (ρ id)++ρ.fp id then w.heap[b]? else ρ.mem b)=some o:=hb
  split at hb
  ·rename_i hm;exact .inr ⟨hb,.inr (QG b hm)⟩
  ·exact .inl hb
 ·obtain⟨rfl,rfl⟩:=look?_one hl
  refine⟨?_,lI,trivial⟩
  show NO ρ'.mem t (ρ i) xs
  rcases p1.2 with⟨hv,hn0⟩ | ⟨g,cap,cur,hv,h0,hg,Nc,hcm,Nd,htk⟩
  ·exact .inl ⟨hv,List.length_eq_zero_iff.1 hn0⟩
  ·refine .inr ⟨g,0,cap,cur,e,(0,0),hv,Nc,hcm,?_,fun j x hx=> ?_⟩
   ·rw [Ou g (List.mem_append_left _ (by rw [hv,xS h0];simp))];exact hg
   ·have hj:j < xs.length:=(List.getElem?_eq_some_iff.1 hx).1
    obtain⟨l,hll⟩: ∃ l,Ls[j]? =some l:=⟨_,List.getElem?_eq_getElem (by rw [p2.1];exact hj)⟩
    have:=drep _ _ _ _ (p2.2.2.1 j x l (fun _ _ h=>by cases h) hx hll) (fun b hb=>List.mem_append_right _ (by rw [p3];exact rC.2 ⟨j,l,hll,hb⟩))
    rw [← htk]at this
    have gV:=AJ (z:=t.size) hj
    rw [List.drop_take,List.take_take]at this
    rw [Nat.zero_add]
    rwa [Nat.min_eq_left (by omega)]at this
 ·obtain⟨rfl,rfl⟩:=look?_one hl
  cases hb'
 ·exact(look?_one hl).1.trans (look?_one hl').1.symm
theorem Hp.treeClose(h:Hp B ρ ent used w){id:Nat}{e:TypeId}{t:CTy}{xs:List (E t)}{k:Nat}{hc:List Cell}(he:ent id=some (.tree e t xs (some (k,hc)))){y:E t}{ids:List Nat}(ZP:Hs ent t hc=some (y,ids))(hd:ids.Nodup):
  ∃ ρ':Nm,Ext B used ρ ρ'∧Hp B ρ' (bG ent ((id,.tree e t (xs.set k y) none)::TJ ids)) used w:=by
 obtain⟨⟨cs,Ls,h1,⟨t1,t2,t3,t4⟩,h3,h4,h5⟩,lI,_⟩:=h.he _ _ he
 obtain⟨hk,hLk,hch⟩:=t2 k hc rfl
 obtain⟨L,d1,d2,d3⟩:=QM h t hc y ids ZP hd
 have hidn:id∉ids:=by
  intro hm
  obtain⟨_,_,_,hr⟩:=Xw ZP id hm
  rw [he]at hr;cases hr
 have hsep: ∀ b∈L,b∉lj (ρ id)++ρ.fp id:=by
  intro b hb hb2
  obtain⟨i,hi,e0,he0,hb0⟩:=d2 b hb
  have:=h.hi _ _ _ _ b he0 he hb0 hb2
  subst this;exact hidn hi
 let ρ':Nm:=⟨ρ.nm,ρ.mem,fun i=>bif Nat.beq i id then sL (Ls.set k L)else ρ.fp i⟩
 have hcon: ∀ c:Cell,c.conc ρ'=c.conc ρ:=fun c=>Cell.conc_congr (U:=fun _=>true) (fun _ _=>rfl) (by cases c <;> simp [Cell.inU])
 have Kw: ∀ b,b∈sL (Ls.set k L)→b∈L∨b∈sL Ls:=by
  intro b hb
  obtain⟨j,l',hj,hb'⟩:=rC.1 hb
  rcases ZG hj with⟨_,rfl⟩ | ⟨_,hj⟩
  ·exact .inl hb'
  ·exact .inr (rC.2 ⟨j,l',hj,hb'⟩)
 have hgl: ∀ (a:Nat) l1,(Ls.set k L)[a]? =some l1→(a=k∧l1=L)∨(a≠k∧Ls[a]? =some l1):=by
  exact fun a l1 ha=>ZG ha
 have:=h.toTree (ρ':=ρ') (w':=w) (X:=fun _=>False) (G:=ids) (id:=id) (new:= []) (e:=e) (t:=t) (xs:=xs.set k y) (ho:=none) (cs:=cs) (Ls:=Ls.set k L)
  (Chg.refl w _) (fun _ _=>rfl) rfl (fun i hi=> ?_) (fun g hg=> ?_) lI trivial (fun _ hx=>hx.elim) (fun b hb=> ?_) (by rw [List.length_set];exact h1) ⟨by simp [t1],fun j hc' hj=>(by cases hj),fun j y' l' _ hy hl2=> ?_,fun a b l1 l2 q ha hb hq1 hq2=> ?_⟩
  (by show (bif Nat.beq id id then _ else _)=_;simp) (fun b hb hb2=> ?_)
 ·exact⟨ρ',this.1,this.2⟩
 ·show (bif Nat.beq i id then _ else ρ.fp i)=ρ.fp i
  cases hq:Nat.beq i id with
  |false=>rfl
  |true=>exact(hi (Nat.eq_of_beq_eq_true hq)).elim
 ·obtain⟨e0,he0⟩:=d3 g hg
  exact(h.he g e0 he0).2.1
 ·right
  rcases List.mem_append.1 hb with hb | hb
  ·exact⟨id,.inl rfl,_,he,List.mem_append_left _ hb⟩
  ·rcases Kw b hb with hb | hb
   ·obtain⟨i,hi,e0,he0,hb0⟩:=d2 b hb
    exact⟨i,.inr hi,e0,he0,hb0⟩
   ·exact⟨id,.inl rfl,_,he,List.mem_append_right _ (by rw [h3];exact hb)⟩
 ·rcases hgl j l' hl2 with⟨rfl,rfl⟩ | ⟨Vf,hl3⟩
  ·rw [List.getElem?_set_self hk]at hy;cases hy
   rw [hch];exact d1
  ·rw [List.getElem?_set_ne (fun h=>Vf h.symm)]at hy
   exact t3 j y' l' (fun a b hab=>by cases hab;exact Vf) hy hl3
 ·rcases hgl a l1 ha with⟨rfl,rfl⟩ | ⟨Vf,ha'⟩
  ·rcases hgl b l2 hb with⟨rfl,rfl⟩ | ⟨hne2,hb'⟩
   ·rfl
   ·exact(hsep q hq1 (List.mem_append_right _ (by rw [h3];exact rC.2 ⟨b,l2,hb',hq2⟩))).elim
  ·rcases hgl b l2 hb with⟨rfl,rfl⟩ | ⟨hne2,hb'⟩
   ·exact(hsep q hq2 (List.mem_append_right _ (by rw [h3];exact rC.2 ⟨a,l1,ha',hq1⟩))).elim
   ·exact t4 a b l1 l2 q ha' hb' hq1 hq2
 ·rcases Kw b hb2 with hb2 | hb2
  ·exact hsep b hb2 (List.mem_append_left _ hb)
  ·exact h4 b hb (by rw [h3];exact hb2)
def Mo(ent:Nat→Option Entry):List Nat→List (Nat×Entry)
 | []=> []
 |id::r=>match ent id with
  |some (.row true e t xs)=>(id,.row false e t xs)::Mo ent r
  |some (.tree e t xs none)=>(id,.row false e t xs)::Mo ent r
  |_=>Mo ent r
theorem look?_frzA{ent:Nat→Option Entry}: ∀ {l:List Nat} {i:Nat} {e:Entry},look? (Mo ent l) i=some e→i∈l∧ ∃ e0 t xs,(ent i=some (.row true e0 t xs)∨ent i=some (.tree e0 t xs none))∧e= .row false e0 t xs
 | [],i,e,h=>by simp [Mo,look?]at h
 |id::r,i,e,h=>by
  have oi: ∀ (e1:TypeId) (t:CTy) (xs:List (E t)),(ent id=some (.row true e1 t xs)∨ent id=some (.tree e1 t xs none))→look? ((id,.row false e1 t xs)::Mo ent r) i=some e→
    i∈id::r∧ ∃ e0 t xs,(ent i=some (.row true e0 t xs)∨ent i=some (.tree e0 t xs none))∧e= .row false e0 t xs:=by
   intro e1 t xs he h
   simp only [look?]at h
   cases hb:Nat.beq id i with
   |true=>
    have:=Nat.eq_of_beq_eq_true hb;subst this
    simp at h;exact⟨by simp,e1,t,xs,he,h.symm⟩
   |false=>
    simp only [hb,cond_false]at h
    obtain⟨h1,h2⟩:=look?_frzA h
    exact⟨List.mem_cons_of_mem _ h1,h2⟩
  simp only [Mo]at h
  split at h
  ·rename_i e1 t xs he;exact oi e1 t xs (.inl he) h
  ·rename_i e1 t xs he;exact oi e1 t xs (.inr he) h
  ·obtain⟨h1,h2⟩:=look?_frzA h
   exact⟨List.mem_cons_of_mem _ h1,h2⟩
theorem look?_frzA_mem{ent:Nat→Option Entry}: ∀ {l:List Nat} {i:Nat} {e0:TypeId} {t:CTy} {xs:List (E t)},i∈l→(ent i=some (.row true e0 t xs)∨ent i=some (.tree e0 t xs none))→look? (Mo ent l) i=some (.row false e0 t xs)
 | [],i,_,_,_,h,_=>by cases h
 |id::r,i,e0,t,xs,h,he=>by
  have oi: ∀ (e1:TypeId) (t1:CTy) (xs1:List (E t1)),(ent id=some (.row true e1 t1 xs1)∨ent id=some (.tree e1 t1 xs1 none))→look? ((id,.row false e1 t1 xs1)::Mo ent r) i=some (.row false e0 t xs):=by
   intro e1 t1 xs1 he1
   simp only [look?]
   cases hb:Nat.beq id i with
   |true=>
    have:=Nat.eq_of_beq_eq_true hb;subst this
    rcases he with he | he <;> rcases he1 with he1 | he1 <;> rw [he]at he1 <;> cases he1 <;> rfl
   |false=>
    rcases List.mem_cons.1 h with rfl | h
    ·rw [show Nat.beq i i=true from Nat.beq_refl i]at hb;cases hb
    ·exact look?_frzA_mem h he
  simp only [Mo]
  split
  ·rename_i e1 t1 xs1 he1;exact oi e1 t1 xs1 (.inl he1)
  ·rename_i e1 t1 xs1 he1;exact oi e1 t1 xs1 (.inr he1)
  ·rename_i h1 h2
   rcases List.mem_cons.1 h with rfl | h
   ·rcases he with he | he
    ·exact(h1 _ _ _ he).elim
    ·exact(h2 _ _ _ he).elim
   ·exact look?_frzA_mem h he
theorem Hp.freezeA(h:Hp B ρ ent used w): ∀ (l:List Nat),∃ ρ':Nm,ρ'.nm=ρ.nm∧ρ'.fp=ρ.fp∧Ext B used ρ ρ'∧Hp B ρ' (bG ent (Mo ent l)) used w∧
  ∀ i∈l,∀ e,ent i=some e→((∃ e0 t xs,e= .row true e0 t xs)∨ ∃ e0 t xs,e= .tree e0 t xs none)→ ∀ b∈e.ob ρ i,∃ o,ρ'.mem b=some o
 | []=>⟨ρ,rfl,rfl,Ext.refl _ _ _,h,fun i hi=>by cases hi⟩
 |id::r=>by
  obtain⟨ρ1,n1,f1,x1,h1,m1⟩:=Hp.freezeA h r
  have NL: ∀ i,ρ1 i=ρ i:=fun i=>by simp only [Nm.of,n1]
  have hobs: ∀ (e:Entry) i,e.ob ρ1 i=e.ob ρ i:=fun e i=>by
   cases e with
   |row own _ _ _=>cases own <;> simp only [Entry.ob,NL]
   |_=>simp only [Entry.ob,NL,f1]
  have hdone: ∀ e1,look? (Mo ent r) id=some e1→Mo ent (id::r)=(id,e1)::Mo ent r∧id∈r:=by
   intro e1 hl
   obtain⟨hm,e0,t,xs,he,rfl⟩:=look?_frzA hl
   refine⟨?_,hm⟩
   simp only [Mo]
   rcases he with he | he <;> rw [he]
  cases hl:look? (Mo ent r) id with
  |some e1=>
   obtain⟨q1,q2⟩:=hdone e1 hl
   refine⟨ρ1,n1,f1,x1,?_,fun i hi=>m1 i ?_⟩
   ·rw [q1,show bG ent ((id,e1)::Mo ent r)=bG ent (Mo ent r) from funext fun i=>by
     simp only [bG,look?]
     cases hb:Nat.beq id i with
     |true=>have:=Nat.eq_of_beq_eq_true hb;subst this;simp [hl]
     |false=>rfl]
    exact h1
   ·rcases List.mem_cons.1 hi with rfl | hi
    ·exact q2
    ·exact hi
  |none=>
   have fin: ∀ (e:TypeId) (t:CTy) (xs:List (E t)) (ρ2:Nm) (e1:Entry),ent id=some e1→bG ent (Mo ent r) id=some e1→ρ2.nm=ρ1.nm→ρ2.fp=ρ1.fp→Ext B used ρ1 ρ2→(∀ b∈e1.ob ρ1 id,∃ o,ρ2.mem b=some o)→Hp B ρ2 (bG (bG ent (Mo ent r)) [(id,.row false e t xs)]) used w→
     ∃ ρ':Nm,ρ'.nm=ρ.nm∧ρ'.fp=ρ.fp∧Ext B used ρ ρ'∧Hp B ρ' (bG ent ((id,.row false e t xs)::Mo ent r)) used w∧
      ∀ i∈id::r,∀ e,ent i=some e→((∃ e0 t xs,e= .row true e0 t xs)∨ ∃ e0 t xs,e= .tree e0 t xs none)→ ∀ b∈e.ob ρ i,∃ o,ρ'.mem b=some o:=by
    intro e t xs ρ2 e1 he1 _ n2 f2 x2 m2 h2
    rw [CH]at h2
    refine⟨ρ2,n2.trans n1,f2.trans f1,x1.trans x2 fun _ h=>h,h2,fun i hi e' he' ho b hb=> ?_⟩
    by_cases hir:i∈r
    ·obtain⟨o,ho⟩:=m1 i hir e' he' ho b hb
     exact⟨o,x2.old b o ho⟩
    ·rcases List.mem_cons.1 hi with rfl | hi
     ·rw [he1]at he';cases he'
      exact m2 b (by rw [hobs];exact hb)
     ·exact(hir hi).elim
   simp only [Mo]
   split
   ·rename_i e t xs he
    have he':bG ent (Mo ent r) id=some (.row true e t xs):=by simp only [bG,hl];exact he
    obtain⟨ρ2,n2,f2,m2,x2,h2⟩:=h1.freeze' he'
    exact fin e t xs ρ2 _ he he' n2 f2 x2 m2 h2
   ·rename_i e t xs he
    have he':bG ent (Mo ent r) id=some (.tree e t xs none):=by simp only [bG,hl];exact he
    obtain⟨ρ2,n2,f2,x2,_,m2,h2⟩:=h1.treeFreeze he'
    exact fin e t xs ρ2 _ he he' n2 f2 x2 m2 h2
   ·rename_i hn1 hn2
    refine⟨ρ1,n1,f1,x1,h1,fun i hi e he ho=> ?_⟩
    rcases List.mem_cons.1 hi with rfl | hi
    ·rcases ho with⟨_,_,_,rfl⟩ | ⟨_,_,_,rfl⟩
     ·exact(hn1 _ _ _ he).elim
     ·exact(hn2 _ _ _ he).elim
    ·exact m1 i hi e he ho
end
end Go.SX
namespace Go.SX
open Go.RowKit
def ao3:List (Option CTy)→Option CTy
 | []=>none
 | [t]=>t
 |some t::r=>match ao3 r with
  |some u=>some (.pair t u)
  |none=>none
 |none::_=>none
def ajW(P:Program):Nat→TypeId→Option CTy
 |0,_=>none
 |f + 1,T=>match P.underlying T with
  |some (.int k)=>some (.int k)
  |some .bool=>some .bool
  |some .string=>some .str
  |some (.slice e)=>(ajW P f e).map (.sl e)
  |some (.struct fs)=>ao3 (fs.toList.map fun fd=>ajW P f fd.type)
  |some (.array n e)=>ao3 (List.replicate n (ajW P f e))
  |_=>none
def tQ{α:Type}:List (List α)→List α
 | []=> []
 |a::r=>a++tQ r
def Rm(P:Program):Nat→TypeId→List (Option (TypeId×CTy))
 |0,_=> [none]
 |f + 1,T=>match P.underlying T with
  |some (.slice e)=> [(ajW P f e).map fun t=>(e,t)]
  |some (.struct fs)=>tQ (fs.toList.map fun fd=>Rm P f fd.type)
  |some (.array n e)=>tQ (List.replicate n (Rm P f e))
  |_=> [none]
def Zr:Cell→Bool
 | .val (.slice none 0 0)=>true
 |_=>false
def ac4:List (Option (TypeId×CTy))→List Cell→Nat→List Cell
 |some _::ts,c::cs,n=>bif Zr c then .ref n::ac4 ts cs (n + 1)else c::ac4 ts cs n
 |none::ts,c::cs,n=>c::ac4 ts cs n
 |_,cs,_=>cs
def akq(tr:Bool)(e:TypeId)(t:CTy):Entry:=
 match tr,t.flat with
 |true,false=> .tree e t [] none
 |_,_=> .row true e t []
def YJ(tr:Bool):List (Option (TypeId×CTy))→List Cell→Nat→List (Nat×Entry)
 |some (e,t)::ts,c::cs,n=>bif Zr c then(n,akq tr e t)::YJ tr ts cs (n + 1)else YJ tr ts cs n
 |none::ts,_::cs,n=>YJ tr ts cs n
 |_,_,_=> []
structure Fix where
 v:V1
 es:List (Nat×Entry)
def Kv(P:Program)(tr:Bool)(T:TypeId)(n:Nat)(v:V1):Fix:=
 match v.cs.any Zr with
 |true=>⟨⟨v.agg,ac4 (Rm P 12 T) v.cs n⟩,YJ tr (Rm P 12 T) v.cs n⟩
 |false=>⟨v,[]⟩
def vJ{α:Type}(l:List (Nat×α)):List Nat:=l.map (·.1)
def V1.cells?(v:V1):Option (List Cell):=
 match v.agg,v.cs with
 |true,cs=>some cs
 |false,[.val (.agg _)]=>none
 |false,[c]=>some [c]
 |false,_=>none
def Cell.one:Cell→Bool
 | .val v=>v.oneCell'
 |_=>true
def aqQ:TypeDesc→Bool
 | .struct _ | .array _ _=>true
 |_=>false
def acV(P:Program)(T:TypeId)(off:Nat)(cs:List Cell):Option V1:=
 match P.underlying T,P.info? T with
 |some d,some i=>
  match aqQ d with
  |true=>bif Nat.ble (off + i.size) cs.length then some ⟨true,(cs.drop off).take i.size⟩else none
  |false=>match cs[off]? with
   |some c=>some ⟨false,[c]⟩
   |none=>none
 |_,_=>none
def JK(P:Program)(T:TypeId)(off n:Nat)(ns:List Cell):Bool:=
 match P.info? T with
 |some i=>Nat.beq ns.length i.size&&Nat.ble (off + ns.length) n&&ns.all Cell.one
 |none=>false
def aj0(P:Program)(T:TypeId)(f:Nat):Option Nat:=
 match P.underlying T with
 |some (.struct fs)=>match fs[f]? with
  |some fd=>match P.info? fd.type with
   |some i=>bif Nat.beq i.size 0 then none else some fd.offset
   |none=>none
  |none=>none
 |_=>none
def agU(ahg:Nat→Option (Nat×Nat))(cells:List Cell):List (Nat×V1)→Option (List Cell)
 | []=>some cells
 |(i,v)::rest=>match ahg i,v.cells? with
  |some (off,size),some ns=>bif Nat.beq ns.length size&&Nat.ble (off + ns.length) cells.length then agU ahg (cells.take off++ns++cells.drop (off + ns.length)) rest else none
  |_,_=>none
def ahg(P:Program)(fs:Array Field)(i:Nat):Option (Nat×Nat):=
 match fs[i]? with
 |some fd=>match P.info? fd.type with
  |some j=>some (fd.offset,j.size)
  |none=>none
 |none=>none
def Raw.ofV(v:SV):Raw:=⟨v,[],[],[]⟩
def one(c:Cell):SV:= .one ⟨false,[c]⟩
def ak6:SV:= .ofValue undef
def vof(look:Nat→Option SS)(A:List (Nat×Bool))(x:Operand):Value:=
 match ev look A x with
 |some v=>match v.toValue? with
  |some u=>u
  |none=>undef
 |none=>undef
def vok(look:Nat→Option SS)(A:List (Nat×Bool))(x:Operand):Bool:=
 match ev look A x with
 |some v=>v.toValue?.isSome
 |none=>false
def OE:Op→List Operand
 | .call c=>(match c.callee with | .value f=> [f] | .invoke r _=> [r] | .builtin _=> [])++c.args.toList
 |op=>op.operands.toList
theorem aqc{op:Op}{x:Operand}(h:x∈op.operands):x∈OE op:=by
 cases op with
 |call c=>
  simp only [Op.operands,Call.operands]at h
  simp only [OE]
  cases hc:c.callee <;> simp [hc]at h ⊢ <;> exact h
 |_=>simpa [OE] using h
def OI(P:Program)(look:Nat→Option SS)(A:List (Nat×Bool))(o:Oper):Option Raw:=
 bif(OE o.op).all (vok look A)then
  match XD P (execOp (vof look A) o)with
  |some (.value v)=>some (.ofV (.ofValue v))
  |_=>none
 else none
def evC(look:Nat→Option SS)(A:List (Nat×Bool))(x:Operand):Option Cell:=
 match ev look A x with
 |some (.one ⟨false,[c]⟩)=>some c
 |_=>none
def evI(look:Nat→Option SS)(A:List (Nat×Bool))(x:Operand):Option Int:=
 match evC look A x with
 |some (.val (.int _ i))=>some i
 |_=>none
def ev1(look:Nat→Option SS)(A:List (Nat×Bool))(x:Operand):Option V1:=
 match ev look A x with
 |some (.one v)=>some v
 |_=>none
def evs(look:Nat→Option SS)(A:List (Nat×Bool)):List Operand→Option (List SV)
 | []=>some []
 |x::r=>match ev look A x,evs look A r with
  |some v,some vs=>some (v::vs)
  |_,_=>none
def ap3(look:Nat→Option SS)(A:List (Nat×Bool)):List (Nat×Operand)→Option (List (Nat×V1))
 | []=>some []
 |(i,x)::r=>match ev1 look A x,ap3 look A r with
  |some v,some vs=>some ((i,v)::vs)
  |_,_=>none
def Gf(P:Program)(T:TypeId)(t:CTy):Bool:=
 match P.underlying T with
 |some (.slice e)=>match P.info? e with
  |some i=>Nat.beq i.size t.size
  |none=>false
 |_=>false
section
variable(P:Program)(tbl:List (PF P))(tr:Bool)(look:Nat→Option SS)(ent:Nat→Option Entry)(A:List (Nat×Bool))(nid:Nat)
def apG(T:TypeId)(x:Operand):Option Raw:=
 match ev look A x with
 |some (.one v)=>let f:=Kv P tr T nid v;some ⟨.one f.v,f.es,vJ f.es,[]⟩
 |some v=>some (.ofV v)
 |none=>none
def aq6(c x y:Operand):Option Raw:=
 match c,evC look A c with
 | .tmp jc,some (.val (.bool cb))=>match ev look ((jc,true)::A) x,ev look ((jc,false)::A) y with
  |some vx,some vy=>(Ll cb vx vy).map Raw.ofV
  |_,_=>none
 |_,_=>none
def aom(T:TypeId):Option Raw:=
 match P.info? T with
 |some i=>match i.zero with
  |some z=>let f:=Kv P tr T (nid + 1) ⟨true,z.cells.toList.map .val⟩;some ⟨one (.ptr nid 0),(nid,.box T f.v.cs)::f.es,nid::vJ f.es,[]⟩
  |none=>none
 |none=>none
def ar5(T:TypeId)(x:Operand):Option Raw:=
 match ev1 look A x with
 |some v=>match v.cells? with
  |some cs=>let f:=Kv P tr T (nid + 1) ⟨true,cs⟩;some ⟨one (.ptr nid 0),(nid,.box T f.v.cs)::f.es,nid::vJ f.es,[]⟩
  |none=>none
 |none=>none
def aqX(T:TypeId)(x:Operand):Option Raw:=
 match evC look A x with
 |some (.ptr id off)=>match ent id with
  |some (.box _ cs)=>match acV P T off cs with
   |some v=>some (.ofV (.one v))
   |none=>none
  |_=>none
 |some (.el id z i off)=>match ent id with
  |some (.row _ _ t xs)=>bif Nat.beq z t.size then
    match acV P T off (yc t (xs[i]?.getD (xE t)) nid)with
    |some v=>some ⟨.one v,NN t (xs[i]?.getD (xE t)) nid,bm nid t.nsl,[decide (i < xs.length)]⟩
    |none=>none
   else none
  |some (.tree e t xs none)=>bif Nat.beq z t.size then
    match acV P T off (yc t (xs[i]?.getD (xE t)) nid)with
    |some v=>match aah v.cs with
     |some _=>some ⟨.one v,[],[],[decide (i < xs.length)]⟩
     |none=>some ⟨.one v,(id,.tree e t xs (some (i,yc t (xs[i]?.getD (xE t)) nid)))::GA t (xs[i]?.getD (xE t)) nid,bm nid t.nsl,[decide (i < xs.length)]⟩
    |none=>none
   else none
  |_=>none
 |_=>none
def apj(T:TypeId)(x y:Operand):Option Raw:=
 match evC look A x,ev1 look A y with
 |some (.ptr id off),some v=>match ent id,v.cells? with
  |some (.box U cs),some ns=>bif JK P T off cs.length ns then some ⟨ak6,[(id,.box U (cs.take off++ns++cs.drop (off + ns.length)))],[],[]⟩else none
  |_,_=>none
 |some (.el id z i off),some v=>match ent id,v.cells? with
  |some (.row true e t xs),some ns=>bif Nat.beq z t.size&&JK P T off t.size ns&&(t.flat||Nat.beq off 0&&Nat.beq ns.length t.size)then
    let old:=yc t (xs[i]?.getD (xE t)) nid
    match Jc ent t (old.take off++ns++old.drop (off + ns.length))with
    |some (y,l)=>bif memN l id then none else some ⟨ak6,(id,.row true e t (xs.set i y))::frz ent l,[],[decide (i < xs.length)]⟩
    |none=>none
   else none
  |some (.tree e t xs none),some ns=>bif Nat.beq z t.size&&JK P T off t.size ns then
    some ⟨ak6,(id,.tree e t xs (some (i,(yc t (xs[i]?.getD (xE t)) nid).take off++ns++(yc t (xs[i]?.getD (xE t)) nid).drop (off + ns.length))))::GA t (xs[i]?.getD (xE t)) nid,bm nid t.nsl,[decide (i < xs.length)]⟩
   else none
  |_,_=>none
 |_,_=>none
def afp(T:TypeId)(x:Operand)(f:Nat):Option Raw:=
 match evC look A x,aj0 P T f with
 |some (.ptr id off),some d=>some (.ofV (one (.ptr id (off + d))))
 |some (.el id z i off),some d=>some (.ofV (one (.el id z i (off + d))))
 |_,_=>none
def aoH(T:TypeId)(x:Operand)(f:Nat):Option Raw:=
 match ev1 look A x,P.underlying T with
 |some ⟨true,cs⟩,some (.struct fs)=>match fs[f]? with
  |some fd=>match acV P fd.type fd.offset cs with
   |some v=>some (.ofV (.one v))
   |none=>none
  |none=>none
 |_,_=>none
def ah4(x:Operand):Option Raw:=
 match evC look A x with
 |some (.val _)=>none
 |some (.ref _)=>none
 |some (.vw _ _ _)=>none
 |some c=>some (.ofV (one c))
 |none=>none
def afu(T:TypeId)(x ix:Operand):Option Raw:=
 match evC look A x,evI look A ix with
 |some (.ref id),some i=>match ent id with
  |some (.row _ _ t xs)=>bif Gf P T t then some ⟨one (.el id t.size i.toNat 0),[],[],[decide (0≤i),decide (i < xs.length)]⟩else none
  |some (.tree _ t xs none)=>bif Gf P T t then some ⟨one (.el id t.size i.toNat 0),[],[],[decide (0≤i),decide (i < xs.length)]⟩else none
  |_=>none
 |some (.ptr id off),some i=>match P.underlying T with
  |some (.array n e)=>match P.info? e with
   |some inf=>some ⟨one (.ptr id (off + i.toNat * inf.size)),[],[],[decide (0≤i),decide (i < n)]⟩
   |none=>none
  |_=>none
 |_,_=>none
def aoP(T:TypeId)(x ix:Operand):Option Raw:=
 match evC look A x,evI look A ix,P.underlying T with
 |some (.val (.string s)),some i,some .string=>some ⟨one (.val (.int .u8 (s[i.toNat]?.getD 0).toNat)),[],[],[decide (0≤i),decide (i < s.size)]⟩
 |_,_,_=>none
def bnd(x:Option Operand)(d:Int):Option Int:=
 match x with
 |none=>some d
 |some y=>evI look A y
def apg(fr:Bool)(T:TypeId)(x:Operand)(lo hi mx:Option Operand):Option Raw:=
 match mx,evC look A x with
 |none,some (.val (.string s))=>match bnd look A lo 0,bnd look A hi s.size,P.underlying T with
  |some l,some h,some .string=>some ⟨one (.val (.string (s.extract l.toNat h.toNat))),[],[],[decide (0≤l),decide (l≤h),decide (h≤s.size)]⟩
  |_,_,_=>none
 |none,some (.ref id)=>match ent id with
  |some (.row own e t xs)=>match bnd look A lo 0,bnd look A hi xs.length with
   |some l,some h=>bif Gf P T t then
     match own,lo,fr with
     |true,none,false=>some ⟨one (.ref nid),[(nid,.row true e t (xs.take h.toNat)),(id,.gone)],[nid],[decide (0≤h),decide (h≤xs.length)]⟩
     |_,_,_=>some ⟨one (.ref nid),(nid,.row false e t ((xs.take h.toNat).drop l.toNat))::frz ent [id],[nid],[decide (0≤l),decide (l≤h),decide (h≤xs.length)]⟩
    else none
   |_,_=>none
  |_=>none
 |_,_=>none
def aqi:List SV→Option (List Nat)
 | []=>some []
 | .one ⟨false,[.ptr id 0]⟩::r=>(aqi r).map (id:: ·)
 |_::_=>none
def aor:List Cell→Option (List (Nat×Option Value))
 | []=>some []
 | .ref id::r=>(aor r).map ((id,none):: ·)
 | .val v::r=>(aor r).map ((0,some v):: ·)
 |_::_=>none
def ahZ(fn:Fn)(first captured:Array Operand):Option Raw:=
 match fn,first.toList,evs look A captured.toList with
 | .func f,[x],some []=>match ev look A x with
  |some (.one ⟨true,cs⟩)=>match aor cs with
   |some vs=>some (.ofV (one (.bnd f vs)))
   |none=>none
  |_=>none
 | .func f,[],some vs=>match vs with
  | []=>some (.ofV (one (.val (.func (.func f) #[] #[]))))
  |_=>match aqi vs with
   |some ids=>some (.ofV (one (.clo f ids)))
   |none=>none
 |_,_,_=>none
def afz(T:TypeId)(l c:Operand):Option Raw:=
 match evI look A l,evI look A c,P.underlying T with
 |some n,some m,some (.slice e)=>match P.info? e,ajW P 12 e with
  |some inf,some t=>match inf.zero with
   |some z=>match Jc (fun _=>none) t (z.cells.toList.map .val)with
    |some (x0,_)=>bif Nat.beq inf.size t.size&&Nat.beq z.cells.size t.size then
      bif tr&& !t.flat then
       (match Hs (fun _=>none) t (z.cells.toList.map .val)with
       |some (y0,_)=>some ⟨one (.ref nid),[(nid,.tree e t (List.replicate n.toNat y0) none)],[nid],[decide (0≤n),decide (n≤m),decide ((inf.bytes:Int) * m≤281474976710656),decide (m≤9223372036854775807)]⟩
       |none=>none)
      else some ⟨one (.ref nid),[(nid,.row true e t (List.replicate n.toNat x0))],[nid],[decide (0≤n),decide (n≤m),decide ((inf.bytes:Int) * m≤281474976710656),decide (m≤9223372036854775807)]⟩
     else none
    |none=>none
   |none=>none
  |_,_=>none
 |_,_,_=>none
def aay:List Nat→Bool
 | []=>true
 |i::r=> !memN r i&&aay r
def ahM(t:CTy):List Cell→Nat→Option (List (E t)×List Nat)
 | [],0=>some ([],[])
 |_::_,0=>none
 |cs,n + 1=>match Jc ent t (cs.take t.size),ahM t (cs.drop t.size) n with
  |some (x,l),some (xs,m)=>some (x::xs,l++m)
  |_,_=>none
def acH(T:TypeId)(len:Nat)(parts:Array (Nat×Operand)):Option Raw:=
 match P.underlying T,ap3 look A parts.toList with
 |some (.slice e),some vs=>match P.info? e,ajW P 12 e with
  |some inf,some t=>match inf.zero with
   |some z=>match agU (fun i=>some (i * t.size,t.size)) (tQ (List.replicate len (z.cells.toList.map .val))) vs with
    |some cs=>bif tr&& !t.flat then
      (match ads ent t cs len with
      |some (xs,l)=>bif Nat.beq inf.size t.size&&Nat.beq z.cells.size t.size&&Nat.ble (len * t.size) 16777216&&aay (sL l)then
        some ⟨one (.ref nid),(nid,.tree e t xs none)::TJ (sL l),[nid],[]⟩
       else none
      |none=>none)
     else
      (match ahM ent t cs len with
      |some (xs,l)=>bif Nat.beq inf.size t.size&&Nat.beq z.cells.size t.size&&Nat.ble (len * t.size) 16777216 then
        some ⟨one (.ref nid),(nid,.row true e t xs)::frz ent l,[nid],[]⟩
       else none
      |none=>none)
    |none=>none
   |none=>none
  |_,_=>none
 |_,_=>none
def aot(T:TypeId)(parts:Array (Nat×Operand)):Option Raw:=
 match P.underlying T,P.info? T,ap3 look A parts.toList with
 |some (.struct fs),some inf,some vs=>match inf.zero with
  |some z=>match agU (ahg P fs) (z.cells.toList.map .val) vs with
   |some cs=>bif fs.all (fun fd=>(P.info? fd.type).isSome)then let f:=Kv P tr T nid ⟨true,cs⟩;some ⟨.one f.v,f.es,vJ f.es,[]⟩else none
   |none=>none
  |none=>none
 |_,_,_=>none
def ar9(op:BinOp)(x y:Operand):Option Raw:=
 match op,evC look A x,evC look A y with
 | .quo,some (.val (.int k a)),some (.val (.int k' b))=>if k=k' then some ⟨one (.val (.int k (k.wrap (a.tdiv b)))),[],[],[decide (b≠0)]⟩else none
 | .rem,some (.val (.int k a)),some (.val (.int k' b))=>if k=k' then some ⟨one (.val (.int k (a.tmod b))),[],[],[decide (b≠0)]⟩else none
 | .shl,some (.val (.int k a)),some (.val (.int _ b))=>some ⟨one (.val (.int k (k.wrap (a * 2 ^ (min b.toNat k.bits))))),[],[],[decide (0≤b)]⟩
 | .shr,some (.val (.int k a)),some (.val (.int _ b))=>some ⟨one (.val (.int k (a.fdiv (2 ^ (min b.toNat k.bits))))),[],[],[decide (0≤b)]⟩
 |_,_,_=>none
def adv(T:Option TypeId):Bool:=
 match T with
 |some t=>match P.underlying t with
  |some (.slice _)=>true
  |_=>false
 |none=>false
def asf(ts:Array TypeId)(x:Operand):Option Raw:=
 match evC look A x with
 |some (.ref id)=>match ent id with
  |some (.row _ _ _ xs)=>bif adv P ts[0]? then some (.ofV (one (.val (.int .i64 xs.length))))else none
  |some (.tree _ _ xs _)=>bif adv P ts[0]? then some (.ofV (one (.val (.int .i64 xs.length))))else none
  |_=>none
 |_=>none
def amk(ts:Array TypeId)(x y:Operand):Option Raw:=
 match evC look A x,evC look A y,ts.toList with
 |some (.ref id),some (.ref jd),[t1,t2]=>match ent id,ent jd with
  |some (.row true e t xs),some (.row _ _ t' ys)=>match P.underlying t1,P.info? e with
   |some (.slice e'),some inf=>match inf.zero with
    |some z=>if h:t'=t then
      bif Nat.beq t1 t2&&Nat.beq e' e&&Nat.beq inf.size t.size&&Nat.beq z.cells.size t.size then
       some ⟨one (.ref nid),[(nid,.row true e t (xs++(h ▸ ys))),(id,.gone)],[nid],[decide (xs.length + ys.length≤9223372036854775807),decide ((xs.length + ys.length) * inf.bytes≤140737488355328)]⟩
      else none
     else none
    |none=>none
   |_,_=>none
  |some (.tree e t xs none),some (.tree _ t' ys none)=>match P.underlying t1,P.info? e with
   |some (.slice e'),some inf=>match inf.zero with
    |some z=>if h:t'=t then
      bif Nat.beq t1 t2&&Nat.beq e' e&&Nat.beq inf.size t.size&&Nat.beq z.cells.size t.size&& !Nat.beq id jd then
       some ⟨one (.ref nid),[(nid,.tree e t (xs++(h ▸ ys)) none),(id,.gone),(jd,.gone)],[nid],[decide (xs.length + ys.length≤9223372036854775807),decide ((xs.length + ys.length) * inf.bytes≤140737488355328)]⟩
      else none
     else none
    |none=>none
   |_,_=>none
  |_,_=>none
 |some (.ref id),some (.val (.slice (some _) 0 _)),[t1,t2]=>match ent id with
  |some (.row true e t xs)=>match P.underlying t1,P.info? e with
   |some (.slice e'),some inf=>match inf.zero with
    |some z=>
      bif Nat.beq t1 t2&&Nat.beq e' e&&Nat.beq inf.size t.size&&Nat.beq z.cells.size t.size then
       some ⟨one (.ref nid),[(nid,.row true e t xs),(id,.gone)],[nid],[decide (xs.length≤9223372036854775807),decide (xs.length * inf.bytes≤140737488355328)]⟩
      else none
    |none=>none
   |_,_=>none
  |_=>none
 |some (.ref id),some (.val (.slice none 0 0)),[t1,t2]=>match ent id with
  |some (.row true e t xs)=>match P.underlying t1,P.info? e with
   |some (.slice e'),some inf=>match inf.zero with
    |some z=>
      bif Nat.beq t1 t2&&Nat.beq e' e&&Nat.beq inf.size t.size&&Nat.beq z.cells.size t.size then
       some ⟨one (.ref nid),[(nid,.row true e t xs),(id,.gone)],[nid],[decide (xs.length≤9223372036854775807),decide (xs.length * inf.bytes≤140737488355328)]⟩
      else none
    |none=>none
   |_,_=>none
  |_=>none
 |_,_,_=>none
end
end Go.SX
namespace Go.SX
open Go.RowKit
structure Ctx (B:Base) (ρ:Nm) (s:St) (a:Act) (w:World) (look:Nat→Option SS) (ent:Nat→Option Entry) (A:List (Nat×Bool)):Prop where
 hM:Mdl B ρ s a w
 hL: ∀ k x,look k=some x→s.look k=some x
 hE: ∀ id e,ent id=some e→s.ent id=some e
 hA: ∀ q∈A,yl a.tmps q.1=some q.2
def qw(B:Base)(s:St)(ρ:Nm)(r:Raw)(o:Oper)(a:Act)(K:Act→World→Prop):Prop:= ∀ (ρ':Nm) (u:Value) (w':World),Ext B s.used ρ ρ'→u=r.v.conc ρ'→Hp B ρ' (bG s.ent r.es) (dg s.used r.new) w'→K (a.put o.dst u) w'
section
variable{P:Program}{tbl:List (PF P)}{tr:Bool}{s:St}{look:Nat→Option SS}{ent:Nat→Option Entry}{A:List (Nat×Bool)}{nid:Nat}{o:Oper}{r:Raw}{B:Base}{ρ:Nm}{a:Act}{w:World}{K:Act→World→Prop}{Q:Exit→Act→World→Prop}
theorem Ctx.ev(c:Ctx B ρ s a w look ent A){x:Operand}{v:SV}(h:ev look A x=some v):a.eval x=v.conc ρ∧v.inU s.used:=⟨ajq c.hM c.hL c.hA h,asa c.hM c.hL h⟩
theorem Ctx.evC(c:Ctx B ρ s a w look ent A){x:Operand}{v:Cell}(h:evC look A x=some v):a.eval x=v.conc ρ∧v.inU s.used:=by
 unfold SX.evC at h
 split at h
 ·rename_i u hu
  cases h
  obtain⟨h1,h2⟩:=c.ev hu
  exact⟨h1,h2 _ (by simp)⟩
 ·cases h
theorem Ctx.evI(c:Ctx B ρ s a w look ent A){x:Operand}{i:Int}(h:evI look A x=some i): ∃ k,a.eval x= .int k i:=by
 unfold SX.evI at h
 split at h
 ·rename_i k i' hu
  cases h
  exact⟨k,(c.evC hu).1⟩
 ·cases h
theorem Ctx.ev1(c:Ctx B ρ s a w look ent A){x:Operand}{v:V1}(h:ev1 look A x=some v):a.eval x=v.conc ρ∧v.inU s.used:=by
 unfold SX.ev1 at h
 split at h
 ·rename_i u hu
  cases h
  exact c.ev hu
 ·cases h
theorem Ctx.hp(c:Ctx B ρ s a w look ent A):Hp B ρ s.ent s.used w:=c.hM.hp
theorem V1.cells?_conc(ρ:Nm){v:V1}{cs:List Cell}(h:v.cells? =some cs):(v.conc ρ).cells=(cs.map (Cell.conc ρ)).toArray:=by
 obtain⟨g,l⟩:=v
 unfold V1.cells? at h
 split at h
 ·rename_i e1;simp only at e1 h;subst e1;cases h;rfl
 ·cases h
 ·rename_i c Vf e1 e2
  simp only at e1 e2;subst e1 e2;cases h
  show ((V1.mk false [c]).conc ρ).cells=_
  simp only [V1.conc]
  cases c with
  |val v=>
   cases v with
   |agg x=>exact(Vf x rfl).elim
   |_=>rfl
  |ref id=>simp only [Cell.conc,List.map_cons,List.map_nil];exact akQ _
  |vw id z k=>simp only [Cell.conc,List.map_cons,List.map_nil];exact akQ _
  |_=>rfl
 ·cases h
theorem V1.cells?_inU{U:Nat→Bool}{v:V1}{cs:List Cell}(hv:v.inU U)(h:v.cells? =some cs): ∀ c∈cs,c.inU U:=by
 obtain⟨g,l⟩:=v
 unfold V1.cells? at h
 split at h
 ·cases h;exact hv
 ·cases h
 ·rename_i e1 e2;simp only at e1 e2;subst e1 e2;cases h;exact hv
 ·cases h
theorem aP{u:Value}{w':World}(hr:(execOp a.eval o).run P w= .ok (.value u) w')(h:K (a.put o.dst u) w'):o.wp P a w K Q:=by
 unfold Oper.wp;rw [hr];exact h
theorem Xb{w':World}(hr:(execOp a.eval o).run P w= .ok .skip w')(h:K (a.put o.dst undef) w'):o.wp P a w K Q:=by
 unfold Oper.wp;rw [hr];exact h
theorem qw.same{v:SV}{nd:List Bool}(hr:r=⟨v,[],[],nd⟩)(hC:qw B s ρ r o a K){w':World}(hp:Hp B ρ s.ent s.used w'):K (a.put o.dst (v.conc ρ)) w':=by
 subst hr
 exact hC ρ _ w' (Ext.refl _ _ _) rfl hp
def Lm(ρ:Nm)(L:List Nat):Nm:=⟨fun i=>bif memN L i then .slice none 0 0 else ρ.nm i,ρ.mem,fun i=>bif memN L i then []else ρ.fp i⟩
theorem memN_mem: ∀ {l:List Nat} {i:Nat},memN l i=true↔i∈l
 | [],i=>by simp [memN]
 |p::l,i=>by
  simp only [memN,List.mem_cons]
  cases hb:Nat.beq p i with
  |true=>have:=Nat.eq_of_beq_eq_true hb;simp [this]
  |false=>
   have Vf:p≠i:=fun e=>by subst e;simp at hb
   simp only [cond_false,memN_mem]
   constructor
   ·exact .inr
   ·rintro(rfl | h)
    ·exact(Vf rfl).elim
    ·exact h
theorem aoQ{c:Cell}(h:Zr c=true)(ρ:Nm):c.conc ρ= .slice none 0 0:=by
 unfold Zr at h
 split at h
 ·rfl
 ·cases h
theorem adA{ρ:Nm}{L:List Nat}: ∀ (ts:List (Option (TypeId×CTy))) (cs:List Cell) (n:Nat),(∀ i∈vJ (YJ tr ts cs n),i∈L)→(∀ c∈cs,c.conc (Lm ρ L)=c.conc ρ)→
  (ac4 ts cs n).map (Cell.conc (Lm ρ L))=cs.map (Cell.conc ρ)
 | [],cs,n,_,hc=>by simp only [ac4];exact List.map_congr_left hc
 |none::ts,[],n,_,hc=>rfl
 |some _::ts,[],n,_,hc=>rfl
 |none::ts,c::cs,n,hk,hc=>by
  simp only [ac4,List.map_cons]
  rw [hc c (by simp),adA ts cs n hk fun c hm=>hc c (by simp [hm])]
 |some (e,t)::ts,c::cs,n,hk,hc=>by
  simp only [ac4]
  simp only [YJ]at hk
  cases hn:Zr c with
  |true=>
   simp only [hn,cond_true]at hk ⊢
   simp only [List.map_cons]
   rw [adA ts cs (n + 1) (fun i hi=>hk i (by simp [vJ]at hi ⊢;exact .inr hi)) fun c hm=>hc c (by simp [hm])]
   have:memN L n=true:=memN_mem.2 (hk n (by simp [vJ]))
   rw [aoQ hn]
   simp [Cell.conc,Nm.of,Lm,this,HP]
  |false=>
   simp only [hn,cond_false]at hk ⊢
   simp only [List.map_cons]
   rw [hc c (by simp),adA ts cs n hk fun c hm=>hc c (by simp [hm])]
theorem adB: ∀ (ts:List (Option (TypeId×CTy))) (cs:List Cell) (n:Nat) (i:Nat) (e:Entry),look? (YJ tr ts cs n) i=some e→i∈vJ (YJ tr ts cs n)∧ ∃ e0 t,e=akq tr e0 t
 | [],cs,n,i,e,h=>by simp [YJ,look?]at h
 |none::ts,[],n,i,e,h=>by simp [YJ,look?]at h
 |some _::ts,[],n,i,e,h=>by simp [YJ,look?]at h
 |none::ts,c::cs,n,i,e,h=>adB ts cs n i e h
 |some (e0,t)::ts,c::cs,n,i,e,h=>by
  simp only [YJ]at h ⊢
  cases hn:Zr c with
  |true=>
   simp only [hn,cond_true]at h ⊢
   simp only [look?]at h
   cases hb:Nat.beq n i with
   |true=>
    have:=Nat.eq_of_beq_eq_true hb;subst this
    simp at h;subst h
    exact⟨by simp [vJ],e0,t,rfl⟩
   |false=>
    simp [hb]at h
    obtain⟨h1,h2⟩:=adB ts cs (n + 1) i e h
    exact⟨by simp only [vJ,List.map_cons,List.mem_cons]at h1 ⊢;exact .inr h1,h2⟩
  |false=>
   simp only [hn,cond_false]at h ⊢
   exact adB ts cs n i e h
theorem ajs: ∀ (ts:List (Option (TypeId×CTy))) (cs:List Cell) (n:Nat) (i:Nat),i∈vJ (YJ tr ts cs n)→n≤i
 | [],cs,n,i,h=>by simp [YJ,vJ]at h
 |none::ts,[],n,i,h=>by simp [YJ,vJ]at h
 |some _::ts,[],n,i,h=>by simp [YJ,vJ]at h
 |none::ts,c::cs,n,i,h=>ajs ts cs n i h
 |some (e0,t)::ts,c::cs,n,i,h=>by
  simp only [YJ]at h
  cases hn:Zr c with
  |true=>
   simp only [hn,cond_true,vJ,List.map_cons,List.mem_cons]at h
   rcases h with rfl | h
   ·exact Nat.le_refl _
   ·have:=ajs ts cs (n + 1) i h;omega
  |false=>simp only [hn,cond_false]at h;exact ajs ts cs n i h
theorem ag9{U:Nat→Bool}: ∀ (ts:List (Option (TypeId×CTy))) (cs:List Cell) (n:Nat),(∀ i∈vJ (YJ tr ts cs n),U i=true)→(∀ c∈cs,c.inU U)→ ∀ c∈ac4 ts cs n,c.inU U
 | [],cs,n,_,hc=>by simp only [ac4];exact hc
 |none::ts,[],n,_,hc=>by simp [ac4]
 |some _::ts,[],n,_,hc=>by simp [ac4]
 |none::ts,c::cs,n,hk,hc=>by
  simp only [ac4]
  intro x hx
  rcases List.mem_cons.1 hx with rfl | hx
  ·exact hc _ (by simp)
  ·exact ag9 ts cs n hk (fun c hm=>hc c (by simp [hm])) x hx
 |some (e,t)::ts,c::cs,n,hk,hc=>by
  simp only [ac4]
  simp only [YJ]at hk
  cases hn:Zr c with
  |true=>
   simp only [hn,cond_true]at hk ⊢
   intro x hx
   rcases List.mem_cons.1 hx with rfl | hx
   ·exact hk n (by simp [vJ])
   ·exact ag9 ts cs (n + 1) (fun i hi=>hk i (by simp [vJ]at hi ⊢;exact .inr hi)) (fun c hm=>hc c (by simp [hm])) x hx
  |false=>
   simp only [hn,cond_false]at hk ⊢
   intro x hx
   rcases List.mem_cons.1 hx with rfl | hx
   ·exact hc _ (by simp)
   ·exact ag9 ts cs n hk (fun c hm=>hc c (by simp [hm])) x hx
theorem anl{U:Nat→Bool}{T:TypeId}{n:Nat}{v:V1}(hv:v.inU U)(hk: ∀ i∈vJ (Kv P tr T n v).es,U i=true):(Kv P tr T n v).v.inU U:=by
 unfold Kv at hk ⊢
 cases hb:v.cs.any Zr with
 |false=>exact hv
 |true=>simp only [hb]at hk ⊢;exact ag9 _ _ _ hk hv
theorem arv{T:TypeId}{n:Nat}{v:V1}{i:Nat}(h:i∈vJ (Kv P tr T n v).es):n≤i:=by
 unfold Kv at h
 cases hb:v.cs.any Zr with
 |false=>simp [hb,vJ]at h
 |true=>simp only [hb]at h;exact ajs _ _ _ _ h
theorem aao{ent:Nat→Option Entry}{used:Nat→Bool}(h:Hp B ρ ent used w){T:TypeId}{n:Nat}{v:V1}(hv:v.inU used)(Xc: ∀ i∈vJ (Kv P tr T n v).es,used i=false):
  ∃ ρ':Nm,Ext B used ρ ρ'∧ρ'.mem=ρ.mem∧Hp B ρ' (bG ent (Kv P tr T n v).es) (dg used (vJ (Kv P tr T n v).es)) w∧(Kv P tr T n v).v.conc ρ'=v.conc ρ∧
   ((Kv P tr T n v).v.agg=v.agg)∧(Kv P tr T n v).v.cs.map (Cell.conc ρ')=v.cs.map (Cell.conc ρ):=by
 obtain⟨g,cs⟩:=v
 unfold Kv at Xc ⊢
 cases hb:cs.any Zr with
 |false=>exact⟨ρ,Ext.refl _ _ _,rfl,h,rfl,rfl,rfl⟩
 |true=>
  simp only [hb]at Xc ⊢
  let L:=vJ (YJ tr (Rm P 12 T) cs n)
  have NL: ∀ id,used id=true→Lm ρ L id=ρ id:=fun id lI=>by
   have:memN L id=false:=by
    cases hm:memN L id with
    |false=>rfl
    |true=>rw [Xc id (memN_mem.1 hm)]at lI;cases lI
   simp [Nm.of,Lm,this]
  have hcc:=adA (ρ:=ρ) (L:=L) (Rm P 12 T) cs n (fun i hi=>hi) fun c hc=>Cell.conc_congr NL (hv c hc)
  obtain⟨hx,hp⟩:=h.names (ρ':=Lm ρ L) (es:=YJ tr (Rm P 12 T) cs n) (new:=L) NL rfl (hfp:=fun id lI _=>by
   have:memN L id=false:=by
    cases hm:memN L id with
    |false=>rfl
    |true=>rw [Xc id (memN_mem.1 hm)]at lI;cases lI
   simp [Lm,this]) fun id e he=>by
   obtain⟨h1,e0,t,rfl⟩:=adB _ _ _ _ _ he
   have hm:memN L id=true:=memN_mem.2 h1
   have hv:Lm ρ L id= .slice none 0 0:=by simp [Nm.of,Lm,hm,HP]
   have hfp:(Lm ρ L).fp id= []:=by simp [Lm,hm]
   have hr:(Entry.row true e0 t []).holds B (Lm ρ L) w id:=by
    simp only [Entry.holds,hv]
    exact⟨[],ZC _ _ _,qm.nil _ _,by simp [lj]⟩
   have ht:(Entry.tree e0 t [] none).holds B (Lm ρ L) w id:=by
    simp only [Entry.holds,hv,hfp]
    exact⟨[],[],ZC _ _ _,⟨rfl,fun k hc h=>(by cases h),fun i x l _ hx=>(by simp at hx),fun i j l l' k hl=>(by simp at hl)⟩,rfl,(by simp [lj]),(by simp [lj])⟩
   refine⟨?_,by simp [dg,hm],?_,?_⟩
   ·unfold akq;split
    ·exact ht
    ·exact hr
   ·unfold akq;split <;> trivial
   ·unfold akq;split <;> simp only [Entry.ob,hv,lj,hfp,List.append_nil]
  refine⟨Lm ρ L,hx,rfl,hp,?_,trivial,hcc⟩
  simp only [V1.conc]
  cases g with
  |true=>simp only [hcc]
  |false=>
   match cs,hcc with
   | [],_=>cases Rm P 12 T with
    |nil=>rfl
    |cons t _=>cases t <;> rfl
   | [c],hcc=>
    have hl: ∃ c',ac4 (Rm P 12 T) [c] n= [c']:=by
     match Rm P 12 T with
     | []=>exact⟨c,rfl⟩
     |none::ts=>exact⟨c,by cases ts with | nil=>rfl | cons t _=>cases t <;> rfl⟩
     |some t::ts=>
      simp only [ac4]
      cases Zr c with
      |true=>exact⟨.ref n,by cases ts with | nil=>rfl | cons t _=>cases t <;> rfl⟩
      |false=>exact⟨c,by cases ts with | nil=>rfl | cons t _=>cases t <;> rfl⟩
    obtain⟨c',hc'⟩:=hl
    rw [hc']at hcc ⊢
    simpa using hcc
   |c1::c2::cr,hcc=>
    have:=congrArg List.length hcc
    simp only [List.length_map,List.length_cons]at this
    match hq:ac4 (Rm P 12 T) (c1::c2::cr) n,this with
    |_::_::_,_=>rfl
end
end Go.SX
namespace Go.SX
open Go.RowKit
section
variable{P:Program}{tr:Bool}{s:St}{look:Nat→Option SS}{ent:Nat→Option Entry}{A:List (Nat×Bool)}{nid:Nat}{o:Oper}{r:Raw}{B:Base}{ρ:Nm}{a:Act}{w:World}{K:Act→World→Prop}{Q:Exit→Act→World→Prop}
theorem aiR(c:Ctx B ρ s a w look ent A){T:TypeId}{x:Operand}(ho:o.op= .move x∨o.op= .assign x)(h:apG P tr look A nid T x=some r)(oI: ∀ i∈r.new,s.used i=false)(hC:qw B s ρ r o a K):o.wp P a w K Q:=by
 have hr: ∀ w,(execOp a.eval o).run P w= .ok (.value (a.eval x)) w:=fun w=>by
  obtain⟨dst,op,ty,pos,after,guard⟩:=o
  rcases ho with ho | ho <;> (simp only at ho;subst ho;rfl)
 unfold apG at h
 split at h
 ·rename_i v hv
  cases h
  obtain⟨h1,h2⟩:=c.ev hv
  obtain⟨ρ',hx,_,hp,hcc,_⟩:=aao (P:=P) (tr:=tr) (T:=T) (n:=nid) (v:=v) c.hp h2 oI
  refine aP (hr w) (hC ρ' _ w hx ?_ hp)
  rw [h1];exact hcc.symm
 ·rename_i v hv
  cases h
  obtain⟨h1,h2⟩:=c.ev hv
  refine aP (hr w) ?_
  rw [h1]
  exact qw.same rfl hC c.hp
 ·cases h
theorem anT(c:Ctx B ρ s a w look ent A){cc x y:Operand}(ho:o.op= .pick cc x y)(h:aq6 look A cc x y=some r)(hC:qw B s ρ r o a K):o.wp P a w K Q:=by
 obtain⟨dst,op,ty,pos,after,guard⟩:=o
 simp only at ho;subst ho
 unfold aq6 at h
 split at h
 ·rename_i jc cb hc
  split at h
  ·rename_i vx vy hx hy
   cases hm:Ll cb vx vy with
   |none=>simp [hm]at h
   |some v=>
    simp [hm]at h;subst h
    have hcv:a.eval (.tmp jc)= .bool cb:=(c.evC hc).1
    have hyl:yl a.tmps jc=some cb:=by
     simp only [Act.eval,Array.getD_eq_getD_getElem?]at hcv
     unfold yl
     cases hq:a.tmps[jc]? with
     |none=>rw [hq]at hcv;simp [undef]at hcv
     |some u=>rw [hq]at hcv;simp at hcv;subst hcv;rfl
    refine aP (u:=cond cb (a.eval x) (a.eval y)) (w':=w) ?_ ?_
    ·cases cb <;> simp [execOp,hcv,asBool]
    ·have:cond cb (a.eval x) (a.eval y)=v.conc ρ:=by
      rw [OD ρ hm]
      have hA': ∀ q∈(jc,cb)::A,yl a.tmps q.1=some q.2:=fun q hq=>by
       rcases List.mem_cons.1 hq with rfl | hq
       ·exact hyl
       ·exact c.hA q hq
      cases cb with
      |true=>simpa using ajq c.hM c.hL hA' hx
      |false=>simpa using ajq c.hM c.hL hA' hy
     rw [this]
     exact qw.same rfl hC c.hp
  ·cases h
 ·cases h
theorem Vl(ρ:Nm)(l:List Value):(l.map Cell.val).map (Cell.conc ρ)=l:=by
 rw [List.map_map,show (Cell.conc ρ ∘ Cell.val)=id from rfl,List.map_id]
theorem akd{l:List (Nat×Entry)}{i:Nat}{e:Entry}(h:look? l i=some e):i∈vJ l:=by
 induction l with
 |nil=>simp [look?]at h
 |cons p l ih=>
  simp only [look?]at h
  simp only [vJ,List.map_cons,List.mem_cons]
  cases hb:Nat.beq p.1 i with
  |true=>exact .inl (Nat.eq_of_beq_eq_true hb).symm
  |false=>simp [hb]at h;exact .inr (ih h)
theorem Gd{used:Nat→Bool}{l:List Nat}{i:Nat}(h:i∈l):dg used l i=true:=by simp [dg,memN_mem.2 h]
theorem apn{used:Nat→Bool}{l:List Nat}{i:Nat}(h:i∉l)(hu:used i=false):dg used l i=false:=by
 have:memN l i=false:=by
  cases hm:memN l i with
  |false=>rfl
  |true=>exact(h (memN_mem.1 hm)).elim
 simp [dg,this,hu]
theorem ag7(c:Ctx B ρ s a w look ent A){T:TypeId}{cs:List Cell}(OJ: ∀ x∈cs,x.inU s.used)
  (hr:(execOp a.eval o).run P w= .ok (.value (.pointer (some ⟨w.heap.size,0,none⟩))) (w.alloc (.cells (cs.map (Cell.conc ρ)).toArray T)))
  (oI: ∀ i∈nid::vJ (Kv P tr T (nid + 1) ⟨true,cs⟩).es,s.used i=false)
  (hC:qw B s ρ ⟨one (.ptr nid 0),(nid,.box T (Kv P tr T (nid + 1) ⟨true,cs⟩).v.cs)::(Kv P tr T (nid + 1) ⟨true,cs⟩).es,nid::vJ (Kv P tr T (nid + 1) ⟨true,cs⟩).es,[]⟩ o a K):o.wp P a w K Q:=by
 obtain⟨ρ1,hx1,hm1,hp1,_,_,hcc⟩:=aao (P:=P) (tr:=tr) (T:=T) (n:=nid + 1) (v:=⟨true,cs⟩) c.hp OJ fun i hi=>oI i (by simp [hi])
 have Xc:dg s.used (vJ (Kv P tr T (nid + 1) ⟨true,cs⟩).es) nid=false:=apn (fun hi=>by have:=arv hi;omega) (oI nid (by simp))
 have Ou: ∀ x∈(Kv P tr T (nid + 1) ⟨true,cs⟩).v.cs,x.inU (dg s.used (vJ (Kv P tr T (nid + 1) ⟨true,cs⟩).es)):=
  anl (v:=⟨true,cs⟩) (fun x hx=>Cell.inU_mono jF (OJ x hx)) fun i hi=>Gd hi
 obtain⟨hx2,hp2⟩:=hp1.alloc Xc T (Kv P tr T (nid + 1) ⟨true,cs⟩).v.cs Ou
 rw [hcc,CH,alw]at hp2
 refine aP hr (hC _ _ _ (hx1.trans hx2 jF) ?_ hp2)
 simp only [one,SV.conc,V1.conc,Cell.conc]
 rw [lF _ _ rfl];rfl
theorem amh(c:Ctx B ρ s a w look ent A){T:TypeId}(ho:o.op= .alloc T)(h:aom P tr nid T=some r)(oI: ∀ i∈r.new,s.used i=false)(hC:qw B s ρ r o a K):o.wp P a w K Q:=by
 obtain⟨dst,op,ty,pos,after,guard⟩:=o
 simp only at ho;subst ho
 unfold aom at h
 split at h
 ·rename_i i hi
  split at h
  ·rename_i z hz
   cases h
   refine ag7 c (fun x hx=> ?_) ?_ oI hC
   ·obtain⟨v,_,rfl⟩:=List.mem_map.1 hx;trivial
   ·rw [Vl]
    simp [execOp,Instr.alloc,zeroValue,typeInfo,hi,hz,newVar,newRow,newObj];rfl
  ·cases h
 ·cases h
theorem aos(c:Ctx B ρ s a w look ent A){T:TypeId}{x:Operand}(ho:o.op= .box T x)(h:ar5 P tr look A nid T x=some r)(oI: ∀ i∈r.new,s.used i=false)(hC:qw B s ρ r o a K):o.wp P a w K Q:=by
 obtain⟨dst,op,ty,pos,after,guard⟩:=o
 simp only at ho;subst ho
 unfold ar5 at h
 split at h
 ·rename_i v hv
  split at h
  ·rename_i cs OJ
   cases h
   obtain⟨h1,h2⟩:=c.ev1 hv
   refine ag7 c (V1.cells?_inU h2 OJ) ?_ oI hC
   simp [execOp,Instr.box,newVar,newRow,newObj,h1,V1.cells?_conc ρ OJ];rfl
  ·cases h
 ·cases h
theorem Hq(b off j:Nat):(⟨b,off,none⟩:Addr).add j=⟨b,off + j,none⟩:=by
 unfold Addr.add;split <;> simp_all
theorem adD{T:TypeId}{d:TypeDesc}(h:P.underlying T=some d)(w:World):(isAgg T).run P w= .ok (aqQ d) w:=by
 unfold isAgg
 rw [Sem.run_bind,run_underlying h w]
 cases d <;> rfl
theorem adE{T:TypeId}{off base b:Nat}{cs:List Cell}{v:V1}(hv:acV P T off cs=some v)(hcell: ∀ j u,(cs.map (Cell.conc ρ))[j]? =some u→w.cell? ⟨b,base + j,none⟩=some u):
  (loadVar T ⟨b,base + off,none⟩).run P w= .ok (v.conc ρ) w:=by
 unfold acV at hv
 split at hv
 ·rename_i d i hd hi
  split at hv
  ·rename_i Ix
   cases hb:Nat.ble (off + i.size) cs.length with
   |false=>simp [hb]at hv
   |true=>
    simp [hb]at hv;subst hv
    have Nc:=Nat.le_of_ble_eq_true hb
    have qg:(((cs.drop off).take i.size).map (Cell.conc ρ)).length=i.size:=by simp;omega
    have hl:(loadCells ⟨b,base + off,none⟩ (((cs.drop off).take i.size).map (Cell.conc ρ)).length).run P w= .ok (((cs.drop off).take i.size).map (Cell.conc ρ)).toArray w:=
     run_loadCells_list (P:=P) w _ _ fun j u hj=>by
      rw [Hq,Nat.add_assoc]
      refine hcell _ _ ?_
      rw [← hj]
      simp only [List.getElem?_map,List.getElem?_take,List.getElem?_drop]
      split
      ·rfl
      ·rename_i gV
       have:=(List.getElem?_eq_some_iff.1 hj).1
       rw [qg]at this;omega
    rw [qg]at hl
    simp [loadVar,Sem.run_bind,adD hd,Ix,sizeOf,typeInfo,hi,hl,V1.conc]
  ·rename_i Ix
   split at hv
   ·rename_i c hc
    cases hv
    have:w.cell? ⟨b,base + off,none⟩=some (c.conc ρ):=hcell _ _ (by simp [hc])
    simp [loadVar,Sem.run_bind,adD hd,Ix,V1.conc,this]
   ·cases hv
 ·cases hv
theorem Wj{T U:TypeId}{off b:Nat}{cur:Array Value}{n:Nat}{ns:List Cell}{v:Value}{off0:Nat}(mG:JK P T off0 n ns=true)(Nc:off0 + ns.length≤n→off + ns.length≤cur.size)(hv:v.cells=(ns.map (Cell.conc ρ)).toArray)(hh:w.heap[b]? =some (.cells cur U (0,0))):
  (storeVar T ⟨b,off,none⟩ v).run P w= .ok () (w.setRow b (cur.toList.take off++ns.map (Cell.conc ρ)++cur.toList.drop (off + ns.length)).toArray):=by
 unfold JK at mG
 split at mG
 ·rename_i i hi
  simp only [Bool.and_eq_true]at mG
  obtain⟨⟨h1,h2⟩,h3⟩:=mG
  have h1:=Nat.eq_of_beq_eq_true h1
  have h2:=Nc (Nat.le_of_ble_eq_true h2)
  have hst:=run_storeCells_at P b off U (ns.map (Cell.conc ρ)) 0 cur w hh (by simp;omega) (fun u hu=>by
   obtain⟨c,hc,rfl⟩:=List.mem_map.1 hu
   have:=List.all_eq_true.1 h3 c hc
   cases c with
   |val v=>exact this
   |ref id=>exact an5 _
   |vw id z k=>exact an5 _
   |_=>rfl)
  have Nd:v.cells.size=i.size:=by rw [hv];simp [h1]
  have hvl:v.cells.toList=ns.map (Cell.conc ρ):=by rw [hv]
  simp only [storeVar,sizeOf,typeInfo,program,Sem.run_bind,Sem.run,hi,Result.andThen_ok,Sem.run_pure,Nd,ne_eq,not_true_eq_false,if_false,hvl]
  rw [hst]
  simp
 ·cases mG
end
end Go.SX
namespace Go.SX
open Go.RowKit
section
variable{P:Program}{tr:Bool}{s:St}{look:Nat→Option SS}{ent:Nat→Option Entry}{A:List (Nat×Bool)}{nid:Nat}{o:Oper}{r:Raw}{B:Base}{ρ:Nm}{a:Act}{w:World}{K:Act→World→Prop}{Q:Exit→Act→World→Prop}
theorem AA{b k:Nat}{arr:Array Value}{T:TypeId}{fz:Nat×Nat}(h:w.heap[b]? =some (.cells arr T fz)):w.cell? ⟨b,k,none⟩=arr[k]? :=by
 simp [World.cell?,h]
theorem al2{own:Bool}{id:Nat}{e:TypeId}{t:CTy}{xs:List (E t)}(h:(Entry.row own e t xs).holds B ρ w id)(hf: ∀ b o,ρ.mem b=some o→w.heap[b]? =some o){i:Nat}{x:E t}(hx:xs[i]? =some x):
  ∃ chunk,Rep ρ.mem t chunk x∧ ∀ j u,chunk[j]? =some u→w.cell? ⟨TG (ρ id),afE (ρ id) + i * t.size + j,none⟩=some u:=by
 cases own with
 |false=>
  rcases h with⟨_,hn⟩ | ⟨b,off,cap,arr,T,fz,h1,h2,h3,h4,h5⟩
  ·rw [hn]at hx;simp at hx
  ·refine⟨_,h5 i x hx,fun j u hj=> ?_⟩
   rw [h1]
   simp only [TG,afE]
   rw [AA (hf _ _ h4)]
   simp only [List.getElem?_take,List.getElem?_drop]at hj
   split at hj
   ·simpa using hj
   ·cases hj
 |true=>
  obtain⟨cs,h1,h2,_⟩:=h
  refine⟨_,h2.2 i x hx,fun j u hj=> ?_⟩
  have gV:=AJ (z:=t.size) (List.getElem?_eq_some_iff.1 hx).1
  rcases h1.2 with⟨_,hn⟩ | ⟨g,cap,cur,hv,_,hg,Nc,hcm,Nd,htk⟩
  ·have:=(List.getElem?_eq_some_iff.1 hx).1;omega
  ·rw [hv]
   simp only [TG,afE,Nat.zero_add]
   rw [AA hg]
   rw [← htk]at hj
   simp only [List.getElem?_take,List.getElem?_drop]at hj
   split at hj
   ·split at hj
    ·simpa using hj
    ·cases hj
   ·cases hj
theorem adu{α:Type}{xs:List α}{i:Nat}{d:α}(h:i < xs.length):xs[i]? =some (xs[i]?.getD d):=by
 rw [List.getElem?_eq_getElem h];rfl
theorem Ve{id z i off:Nat}:(Cell.el id z i off).conc ρ= .pointer (some ⟨TG (ρ id),afE (ρ id) + (i * z + off),none⟩):=rfl
theorem ahh{id off:Nat}:(Cell.ptr id off).conc ρ= .pointer (some ⟨TG (ρ id),off,none⟩):=rfl
theorem aqg{e:TypeId}{z n:Nat}{v:Value}{cs:List Value}(h:Gl w e z v n cs){k:Nat}(hk:k < n):
  ∃ g cap,v= .slice (some ⟨g,0,none⟩) n cap∧ ∀ j u,((cs.drop (k * z)).take z)[j]? =some u→w.cell? ⟨g,k * z + j,none⟩=some u:=by
 rcases h.2 with⟨_,hn⟩ | ⟨g,cap,cur,hv,h0,hg,Nc,hcm,Nd,htk⟩
 ·omega
 ·refine⟨g,cap,hv,fun j u hj=> ?_⟩
  rw [AA hg,← Array.getElem?_toList]
  rw [List.getElem?_take]at hj
  split at hj
  ·rename_i hjz
   rw [List.getElem?_drop,← htk,List.getElem?_take]at hj
   split at hj
   ·exact hj
   ·cases hj
  ·cases hj
theorem anI(c:Ctx B ρ s a w look ent A){T:TypeId}{x:Operand}(ho:o.op= .load T x)(h:aqX P look ent A nid T x=some r)(oI: ∀ i∈r.new,s.used i=false)(cD: ∀ b∈r.nd,b=true)(hC:qw B s ρ r o a K):o.wp P a w K Q:=by
 obtain⟨dst,op,ty,pos,after,guard⟩:=o
 simp only at ho;subst ho
 unfold aqX at h
 split at h
 ·rename_i id off hx
  split at h
  ·rename_i U cs he
   split at h
   ·rename_i v hv
    cases h
    obtain⟨⟨b,h1,h2,_⟩,_,_⟩:=c.hp.he _ _ (c.hE _ _ he)
    have hr:=adE (P:=P) (ρ:=ρ) (base:=0) (b:=b) (w:=w) hv fun j u hj=>by
     rw [Nat.zero_add,AA h2];simpa using hj
    rw [Nat.zero_add]at hr
    refine aP (u:=v.conc ρ) (w':=w) ?_ (qw.same (v:= .one v) rfl hC c.hp)
    have:=(c.evC hx).1
    rw [ahh,h1]at this
    simp only [TG]at this
    simp [execOp,Instr.loadAt,this,Instr.sureAddr,hr]
   ·cases h
  ·cases h
 ·rename_i id z i off hx
  split at h
  ·rename_i own e t xs he
   cases hz:Nat.beq z t.size with
   |false=>simp [hz]at h
   |true=>
    have:=Nat.eq_of_beq_eq_true hz;subst this
    simp only [hz,cond_true]at h
    split at h
    ·rename_i v hv
     cases h
     have hi:i < xs.length:=by simpa using cD (decide (i < xs.length)) (by simp)
     obtain⟨h1,lI,_⟩:=c.hp.he _ _ (c.hE _ _ he)
     obtain⟨chunk,hc1,hc2⟩:=al2 h1 c.hp.hf.dat (adu (d:=xE t) hi)
     obtain⟨ρ',m',f',k',e',r'⟩:=aaB t chunk _ nid ρ hc1
     have NL: ∀ id,s.used id=true→ρ' id=ρ id:=fun id lI=>k' id (by
      have: ¬ (nid≤id∧id < nid + t.nsl):=fun hh=>by
       have:=oI id (memN_mem.1 (vB.2 hh))
       rw [this]at lI;cases lI
      omega)
     obtain⟨hX,hp⟩:=c.hp.names (es:=NN t (xs[i]?.getD (xE t)) nid) (new:=bm nid t.nsl) NL m' (hfp:=fun id _ _=>by rw [f']) fun id e he=>by
      obtain⟨⟨e0,t0,ys,rfl,hr⟩,h3,h4⟩:=r' id e he
      exact⟨by simp only [Entry.holds];rw [m'];exact hr,Gd (memN_mem.1 (vB.2 ⟨h3,h4⟩)),trivial,rfl⟩
     have hr:=adE (P:=P) (ρ:=ρ') (base:=afE (ρ id) + i * t.size) (b:=TG (ρ id)) (w:=w) hv fun j u hj=>by
      rw [← e']at hj;exact hc2 j u hj
     refine aP (u:=v.conc ρ') (w':=w) ?_ (hC ρ' _ w hX rfl hp)
     have:=(c.evC hx).1
     rw [Ve,← Nat.add_assoc]at this
     simp [execOp,Instr.loadAt,this,Instr.sureAddr,hr]
    ·cases h
  ·rename_i e t xs he
   cases hz:Nat.beq z t.size with
   |false=>simp [hz]at h
   |true=>
    have:=Nat.eq_of_beq_eq_true hz;subst this
    simp only [hz,cond_true]at h
    split at h
    ·rename_i v hv
     obtain⟨⟨cs,Ls,q1,q2,_⟩,lI,_⟩:=c.hp.he _ _ (c.hE _ _ he)
     have xD:=(c.evC hx).1
     rw [Ve,← Nat.add_assoc]at xD
     have main:i < xs.length→ ∀ ρ':Nm,(cs.drop (i * t.size)).take t.size=(yc t (xs[i]?.getD (xE t)) nid).map (Cell.conc ρ')→(execOp a.eval ⟨dst,.load T x,ty,pos,after,guard⟩).run P w= .ok (.value (v.conc ρ')) w:=by
      intro hi ρ' hch
      obtain⟨g,cap,hg,hc2⟩:=aqg q1 hi
      have hr:=adE (P:=P) (ρ:=ρ') (base:=afE (ρ id) + i * t.size) (b:=TG (ρ id)) (w:=w) hv fun j u hj=>by
       rw [← hch]at hj
       rw [hg];simp only [afE,TG,Nat.zero_add]
       exact hc2 j u hj
      simp [execOp,Instr.loadAt,xD,Instr.sureAddr,hr]
     split at h
     ·rename_i vs hvs
      cases h
      have hi:i < xs.length:=by simpa using cD (decide (i < xs.length)) (by simp)
      obtain⟨l,hl⟩: ∃ l,Ls[i]? =some l:=⟨_,List.getElem?_eq_getElem (by rw [q2.1];exact hi)⟩
      have hd:=q2.2.2.1 i _ l (fun _ _ h=>by cases h) (adu (d:=xE t) hi) hl
      obtain⟨ρ1,_,_,_,e1,_⟩:=XA t _ _ l nid ρ hd
      have hv1:v.conc ρ1=v.conc ρ:=by
       have:=Va ρ hvs
       have h2:=Va ρ1 hvs
       simp only [V1.conc]
       obtain⟨g,vcs⟩:=v
       cases g with
       |true=>simp only [this,h2]
       |false=>
        match vcs,this,h2 with
        | [],_,_=>rfl
        | [c0],h3,h4=>simp only [List.map_cons,List.map_nil]at h3 h4;rw [← h3]at h4;simpa using h4
        |_::_::_,_,_=>rfl
      refine aP (u:=v.conc ρ) (w':=w) ?_ (qw.same (v:= .one v) rfl hC c.hp)
      rw [← hv1]
      exact main hi ρ1 e1
     ·cases h
      have hi:i < xs.length:=by simpa using cD (decide (i < xs.length)) (by simp)
      obtain⟨ρ',hX,hm,hp⟩:=c.hp.treeOpen (c.hE _ _ he) (adu (d:=xE t) hi) (nid:=nid) (fun j hj=>oI j hj)
      refine aP (u:=v.conc ρ') (w':=w) ?_ (hC ρ' _ w hX rfl hp)
      obtain⟨⟨cs',Ls',p1,p2,_⟩,_,_⟩:=hp.he id (.tree e t xs (some (i,yc t (xs[i]?.getD (xE t)) nid))) (by simp [bG,look?])
      have hxs:ρ' id=ρ id:=hX.nm id lI
      rw [hxs]at p1
      obtain⟨_,_,p3⟩:=p2.2.1 i _ rfl
      have OJ:cs'=cs:=ah9 p1 q1
      subst OJ
      exact main hi ρ' p3
    ·cases h
  ·cases h
 ·cases h
theorem ahS(c:Ctx B ρ s a w look ent A){T:TypeId}{x:Operand}{f:Nat}(ho:o.op= .fieldAddr T x f)(h:afp P look A T x f=some r)(hC:qw B s ρ r o a K):o.wp P a w K Q:=by
 obtain⟨dst,op,ty,pos,after,guard⟩:=o
 simp only at ho;subst ho
 have oi: ∀ {d b off:Nat},aj0 P T f=some d→a.eval x= .pointer (some ⟨b,off,none⟩)→ ∀ w,(execOp a.eval ⟨dst,.fieldAddr T x f,ty,pos,after,guard⟩).run P w= .ok (.value (.pointer (some ⟨b,off + d,none⟩))) w:=by
  intro d b off hd hx w
  unfold aj0 at hd
  split at hd
  ·rename_i fs hfs
   split at hd
   ·rename_i fd hfd
    split at hd
    ·rename_i i hi
     cases hz:Nat.beq i.size 0 with
     |true=>simp [hz]at hd
     |false=>
      simp [hz]at hd;subst hd
      have Vf:i.size≠0:=fun h0=>by rw [h0]at hz;cases hz
      simp [execOp,Instr.fieldAt,run_underlying hfs,hfd,hx,Instr.sureAddr,fieldPlace,sizeOf,typeInfo,hi,Vf,Hq]
    ·cases hd
   ·cases hd
  ·cases hd
 unfold afp at h
 split at h
 ·rename_i id off d hx hd
  cases h
  have:=(c.evC hx).1
  refine aP (oi hd this w) (qw.same (v:=one (.ptr id (off + d))) rfl hC c.hp)
 ·rename_i id z i off d hx hd
  cases h
  have:=(c.evC hx).1
  refine aP (oi hd this w) ?_
  have:=qw.same (v:=one (.el id z i (off + d))) rfl hC c.hp
  simp only [one,SV.conc,V1.conc,Ve]at this
  rwa [show i * z + (off + d)=i * z + off + d from (Nat.add_assoc _ _ _).symm,← Nat.add_assoc]at this
 ·cases h
theorem akO{T:TypeId}{off:Nat}{cs:List Cell}{v:V1}(hv:acV P T off cs=some v):(part T (cs.map (Cell.conc ρ)).toArray off).run P w= .ok (v.conc ρ) w:=by
 unfold acV at hv
 split at hv
 ·rename_i d i hd hi
  split at hv
  ·rename_i Ix
   cases hb:Nat.ble (off + i.size) cs.length with
   |false=>simp [hb]at hv
   |true=>
    simp [hb]at hv;subst hv
    simp [part,Sem.run_bind,adD hd,Ix,sizeOf,typeInfo,hi,V1.conc,List.extract_eq_take_drop,List.map_take,List.map_drop]
  ·rename_i Ix
   split at hv
   ·rename_i c hc
    cases hv
    simp [part,Sem.run_bind,adD hd,Ix,V1.conc,hc]
   ·cases hv
 ·cases hv
theorem ams(c:Ctx B ρ s a w look ent A){T:TypeId}{x:Operand}{f:Nat}(ho:o.op= .field T x f)(h:aoH P look A T x f=some r)(hC:qw B s ρ r o a K):o.wp P a w K Q:=by
 obtain⟨dst,op,ty,pos,after,guard⟩:=o
 simp only at ho;subst ho
 unfold aoH at h
 split at h
 ·rename_i cs fs hx hfs
  split at h
  ·rename_i fd hfd
   split at h
   ·rename_i v hv
    cases h
    have:=(c.ev1 hx).1
    refine aP (u:=v.conc ρ) (w':=w) ?_ (qw.same (v:= .one v) rfl hC c.hp)
    have hp:=akO (ρ:=ρ) (w:=w) hv
    simp [execOp,Instr.field,run_underlying hfs,hfd,this,V1.conc,asAgg,hp]
   ·cases h
  ·cases h
 ·cases h
theorem ai8(c:Ctx B ρ s a w look ent A){x:Operand}(ho:o.op= .nilCheck x)(h:ah4 look A x=some r)(hC:qw B s ρ r o a K):o.wp P a w K Q:=by
 obtain⟨dst,op,ty,pos,after,guard⟩:=o
 simp only at ho;subst ho
 unfold ah4 at h
 split at h
 ·cases h
 ·cases h
 ·cases h
 ·rename_i cc hn1 hn2 hn3 hx
  cases h
  have:=(c.evC hx).1
  refine aP (u:=cc.conc ρ) (w':=w) ?_ (qw.same (v:=one cc) rfl hC c.hp)
  cases cc with
  |val v=>exact(hn1 v rfl).elim
  |ref id=>exact(hn2 id rfl).elim
  |vw id z k=>exact(hn3 id z k rfl).elim
  |_=>simp [execOp,this,Cell.conc]
 ·cases h
theorem TQ{k:IntKind}{i:Int}:(asIntOf (.int k i)).run P w= .ok (k,i) w:=rfl
theorem ahW(c:Ctx B ρ s a w look ent A){T:TypeId}{x ix:Operand}(ho:o.op= .indexAddr T x ix)(h:afu P look ent A T x ix=some r)(cD: ∀ b∈r.nd,b=true)(hC:qw B s ρ r o a K):o.wp P a w K Q:=by
 obtain⟨dst,op,ty,pos,after,guard⟩:=o
 simp only at ho;subst ho
 unfold afu at h
 split at h
 ·rename_i id i hx hi
  split at h
  ·rename_i own e t xs he
   cases mG:Gf P T t with
   |false=>simp [mG]at h
   |true=>
    simp [mG]at h;subst h
    unfold Gf at mG
    split at mG
    ·rename_i e' hT
     split at mG
     ·rename_i inf BC
      have Nd:=Nat.eq_of_beq_eq_true mG
      have h0:0≤i:=by simpa using cD (decide (0≤i)) (by simp)
      have h1:i < xs.length:=by simpa using cD (decide (i < xs.length)) (by simp)
      have xD:=(c.evC hx).1
      obtain⟨k,hiv⟩:=c.evI hi
      obtain⟨hh,_,_⟩:=c.hp.he _ _ (c.hE _ _ he)
      have qg: ∃ b off cap,ρ id= .slice (some ⟨b,off,none⟩) xs.length cap:=by
       cases own with
       |false=>
        rcases hh with⟨_,hn⟩ | ⟨b,off,cap,arr,T',fz,h4,_⟩
        ·rw [hn]at h1;simp at h1;omega
        ·exact⟨b,off,cap,h4⟩
       |true=>
        obtain⟨cs,h4,_⟩:=hh
        rcases h4.2 with⟨_,hn⟩ | ⟨g,cap,cur,hv,_⟩
        ·rw [hn]at h1;simp at h1;omega
        ·exact⟨g,0,cap,hv⟩
      obtain⟨b,off,cap,hv⟩:=qg
      have hcc:=qw.same (v:=one (.el id t.size i.toNat 0)) rfl hC c.hp
      simp only [one,SV.conc,V1.conc,Ve,hv,TG,afE,Nat.add_zero]at hcc
      refine aP (w':=w) ?_ hcc
      simp only [Cell.conc,hv]at xD
      simp [execOp,Instr.indexAt,xD,hiv,run_underlying hT,TQ,h0,h1,sizeOf,typeInfo,BC,Hq,Nd]
     ·cases mG
    ·cases mG
  ·rename_i e t xs he
   cases mG:Gf P T t with
   |false=>simp [mG]at h
   |true=>
    simp [mG]at h;subst h
    unfold Gf at mG
    split at mG
    ·rename_i e' hT
     split at mG
     ·rename_i inf BC
      have Nd:=Nat.eq_of_beq_eq_true mG
      have h0:0≤i:=by simpa using cD (decide (0≤i)) (by simp)
      have h1:i < xs.length:=by simpa using cD (decide (i < xs.length)) (by simp)
      have xD:=(c.evC hx).1
      obtain⟨k,hiv⟩:=c.evI hi
      obtain⟨hh,_,_⟩:=c.hp.he _ _ (c.hE _ _ he)
      have qg: ∃ b off cap,ρ id= .slice (some ⟨b,off,none⟩) xs.length cap:=by
       obtain⟨cs,Ls,h4,_⟩:=hh
       rcases h4.2 with⟨_,hn⟩ | ⟨g,cap,cur,hv,_⟩
       ·rw [hn]at h1;simp at h1;omega
       ·exact⟨g,0,cap,hv⟩
      obtain⟨b,off,cap,hv⟩:=qg
      have hcc:=qw.same (v:=one (.el id t.size i.toNat 0)) rfl hC c.hp
      simp only [one,SV.conc,V1.conc,Ve,hv,TG,afE,Nat.add_zero]at hcc
      refine aP (w':=w) ?_ hcc
      simp only [Cell.conc,hv]at xD
      simp [execOp,Instr.indexAt,xD,hiv,run_underlying hT,TQ,h0,h1,sizeOf,typeInfo,BC,Hq,Nd]
     ·cases mG
    ·cases mG
  ·cases h
 ·rename_i id off i hx hi
  split at h
  ·rename_i n e hT
   split at h
   ·rename_i inf BC
    cases h
    have h0:0≤i:=by simpa using cD (decide (0≤i)) (by simp)
    have h1:i < n:=by simpa using cD (decide (i < n)) (by simp)
    have xD:=(c.evC hx).1
    obtain⟨k,hiv⟩:=c.evI hi
    refine aP (w':=w) ?_ (qw.same (v:=one (.ptr id (off + i.toNat * inf.size))) rfl hC c.hp)
    simp only [Cell.conc]at xD
    simp [execOp,Instr.indexAt,xD,hiv,run_underlying hT,TQ,h0,h1,sizeOf,typeInfo,BC,Hq,Instr.sureAddr,one,SV.conc,V1.conc,Cell.conc]
   ·cases h
  ·cases h
 ·cases h
theorem amD(c:Ctx B ρ s a w look ent A){T:TypeId}{x ix:Operand}(ho:o.op= .index T x ix)(h:aoP P look A T x ix=some r)(cD: ∀ b∈r.nd,b=true)(hC:qw B s ρ r o a K):o.wp P a w K Q:=by
 obtain⟨dst,op,ty,pos,after,guard⟩:=o
 simp only at ho;subst ho
 unfold aoP at h
 split at h
 ·rename_i str i hx hi hT
  cases h
  have h0:0≤i:=by simpa using cD (decide (0≤i)) (by simp)
  have h1:i < str.size:=by simpa using cD (decide (i < str.size)) (by simp)
  have xD:=(c.evC hx).1
  obtain⟨k,hiv⟩:=c.evI hi
  refine aP (w':=w) ?_ (qw.same (v:=one (.val (.int .u8 (str[i.toNat]?.getD 0).toNat))) rfl hC c.hp)
  simp only [Cell.conc]at xD
  have gV:i.toNat < str.size:=by omega
  simp [execOp,Instr.index,xD,hiv,run_underlying hT,TQ,h0,gV,one,SV.conc,V1.conc,Cell.conc]
 ·cases h
theorem aoV(c:Ctx B ρ s a w look ent A){cl:Call}{x:Operand}(ho:o.op= .call cl)(hb:cl.callee= .builtin .len)(Fo:cl.args.toList= [x])(h:asf P look ent A cl.argTypes x=some r)(hC:qw B s ρ r o a K):o.wp P a w K Q:=by
 obtain⟨dst,op,ty,pos,after,guard⟩:=o
 simp only at ho;subst ho
 unfold asf at h
 split at h
 ·rename_i id hx
  split at h
  ·rename_i own e t xs he
   cases mG:adv P cl.argTypes[0]? with
   |false=>simp [mG]at h
   |true=>
    simp only [mG,cond_true]at h
    cases h
    have xD:=(c.evC hx).1
    obtain⟨hh,_,_⟩:=c.hp.he _ _ (c.hE _ _ he)
    have qg: ∃ b cap,ρ id= .slice b xs.length cap:=by
     cases own with
     |false=>
      rcases hh with⟨h4,hn⟩ | ⟨b,off,cap,arr,T',fz,h4,_⟩
      ·obtain⟨b0,hb0⟩:=Km h4;rw [hn];exact⟨b0,0,hb0⟩
      ·exact⟨_,_,h4⟩
     |true=>
      obtain⟨cs,h4,_⟩:=hh
      rcases h4.2 with⟨hv,hn⟩ | ⟨g,cap,cur,hv,_⟩
      ·obtain⟨b0,hb0⟩:=Km hv;rw [hn];exact⟨b0,0,hb0⟩
      ·exact⟨_,_,hv⟩
    obtain⟨b,cap,hv⟩:=qg
    refine aP (w':=w) ?_ (qw.same (v:=one (.val (.int .i64 xs.length))) rfl hC c.hp)
    simp only [Cell.conc,hv]at xD
    have Ix:cl.args= #[x]:=by rw [← Array.toArray_toList (xs:=cl.args),Fo]
    unfold adv at mG
    split at mG
    ·rename_i t0 ht0
     split at mG
     ·rename_i e0 hT
      simp [execOp,resolve,hb,invoke,builtin,Ix,Builtin.len_,xD,one,SV.conc,V1.conc,Cell.conc,goInt,ht0,run_underlying hT]
     ·cases mG
    ·cases mG
  ·rename_i e t xs ho he
   cases mG:adv P cl.argTypes[0]? with
   |false=>simp [mG]at h
   |true=>
    simp only [mG,cond_true]at h
    cases h
    have xD:=(c.evC hx).1
    obtain⟨hh,_,_⟩:=c.hp.he _ _ (c.hE _ _ he)
    have qg: ∃ b cap,ρ id= .slice b xs.length cap:=by
     obtain⟨cs,Ls,h4,_⟩:=hh
     rcases h4.2 with⟨hv,hn⟩ | ⟨g,cap,cur,hv,_⟩
     ·obtain⟨b0,hb0⟩:=Km hv;rw [hn];exact⟨b0,0,hb0⟩
     ·exact⟨_,_,hv⟩
    obtain⟨b,cap,hv⟩:=qg
    refine aP (w':=w) ?_ (qw.same (v:=one (.val (.int .i64 xs.length))) rfl hC c.hp)
    simp only [Cell.conc,hv]at xD
    have Ix:cl.args= #[x]:=by rw [← Array.toArray_toList (xs:=cl.args),Fo]
    unfold adv at mG
    split at mG
    ·rename_i t0 ht0
     split at mG
     ·rename_i e0 hT
      simp [execOp,resolve,hb,invoke,builtin,Ix,Builtin.len_,xD,one,SV.conc,V1.conc,Cell.conc,goInt,ht0,run_underlying hT]
     ·cases mG
    ·cases mG
  ·cases h
 ·cases h
theorem aoz(c:Ctx B ρ s a w look ent A){bop:BinOp}{T T':TypeId}{x y:Operand}(ho:o.op= .binOp bop T x y T')(h:ar9 look A bop x y=some r)(cD: ∀ b∈r.nd,b=true)(hC:qw B s ρ r o a K):o.wp P a w K Q:=by
 obtain⟨dst,op,ty,pos,after,guard⟩:=o
 simp only at ho;subst ho
 unfold ar9 at h
 split at h
 ·rename_i k i k' j hx hy
  split at h
  ·rename_i hk
   subst hk
   cases h
   have hz:j≠0:=by simpa using cD (decide (j≠0)) (by simp)
   have xD:=(c.evC hx).1
   have Pm:=(c.evC hy).1
   simp only [Cell.conc]at xD Pm
   refine aP (w':=w) ?_ (qw.same (v:=one (.val (.int k (k.wrap (i.tdiv j))))) rfl hC c.hp)
   simp [execOp,eqGuard,binOp,xD,Pm,Op.intDiv,hz,one,SV.conc,V1.conc,Cell.conc]
  ·cases h
 ·rename_i k i k' j hx hy
  split at h
  ·rename_i hk
   subst hk
   cases h
   have hz:j≠0:=by simpa using cD (decide (j≠0)) (by simp)
   have xD:=(c.evC hx).1
   have Pm:=(c.evC hy).1
   simp only [Cell.conc]at xD Pm
   refine aP (w':=w) ?_ (qw.same (v:=one (.val (.int k (i.tmod j)))) rfl hC c.hp)
   simp [execOp,eqGuard,binOp,xD,Pm,Op.intDiv,hz,one,SV.conc,V1.conc,Cell.conc]
  ·cases h
 ·rename_i k i k' j hx hy
  cases h
  have hz:0≤j:=by simpa using cD (decide (0≤j)) (by simp)
  have xD:=(c.evC hx).1
  have Pm:=(c.evC hy).1
  simp only [Cell.conc]at xD Pm
  refine aP (w':=w) ?_ (qw.same (v:=one (.val (.int k (k.wrap (i * 2 ^ (min j.toNat k.bits)))))) rfl hC c.hp)
  simp [execOp,eqGuard,binOp,xD,Pm,Op.shift,show ¬ j < 0 by omega,one,SV.conc,V1.conc,Cell.conc]
 ·rename_i k i k' j hx hy
  cases h
  have hz:0≤j:=by simpa using cD (decide (0≤j)) (by simp)
  have xD:=(c.evC hx).1
  have Pm:=(c.evC hy).1
  simp only [Cell.conc]at xD Pm
  refine aP (w':=w) ?_ (qw.same (v:=one (.val (.int k (i.fdiv (2 ^ (min j.toNat k.bits)))))) rfl hC c.hp)
  simp [execOp,eqGuard,binOp,xD,Pm,Op.shift,show ¬ j < 0 by omega,one,SV.conc,V1.conc,Cell.conc]
 ·cases h
end
end Go.SX
namespace Go.SX
open Go.RowKit
section
variable{P:Program}{tr:Bool}{s:St}{look:Nat→Option SS}{ent:Nat→Option Entry}{A:List (Nat×Bool)}{nid:Nat}{o:Oper}{r:Raw}{B:Base}{ρ:Nm}{a:Act}{w:World}{K:Act→World→Prop}{Q:Exit→Act→World→Prop}
theorem DQ(t ty e:TypeId)(i:TypeInfo)(z:Value)(size bytes:Nat)(ht:P.underlying t=some (.slice e))(hi:P.info? e=some i)(hz:i.zero=some z)
  (hsize:i.size=size) (hby:i.bytes=bytes) (hzs:z.cells.size=size) (Nd:0 < size)
  (v:Value) (n:Nat) (xs:List Value) (uX:Gl w e size v n xs)
  (a:Addr) (m c:Nat) (news:List Value) (hl:news.length=m * size) (hnews: ∀ j u,news[j]? =some u→w.cell? (a.add j)=some u) (h1: ∀ u∈news,u.oneCell'=true)
  (h63:n + m≤maxLen) (hbytes:(n + m) * bytes≤140737488355328):
  ∃ v' w',(Builtin.append_ #[t,t] ty #[v,.slice (some a) m c]).run P w= .ok v' w'∧Gl w' e size v' (n + m) (xs++news)∧Chg w w' (fun k=>k∈lj v)∧
   (∀ b∈lj v',w.heap.size≤b∨b∈lj v):=by
 rcases apK uX with⟨hz0,rfl,rfl⟩ | ⟨uX,g0,cap0,hv0,hc0⟩
 ·by_cases hm:m=0
  ·subst hm
   have hn:news= []:=List.length_eq_zero_iff.1 (by rw [hl,Nat.zero_mul])
   subst hn
   rcases hz0 with rfl | ⟨b,rfl⟩
   ·obtain⟨v',w',hr,h2,h3,h4⟩:=run_append_own (P:=P) w 0 t ty e i z size bytes ht hi hz hsize hby hzs Nd (.slice none 0 0) 0 [] (World.ownsRow_nil _ _ _ _) a 0 c [] hl hnews h1 h63 hbytes (Nat.zero_le _)
    refine⟨v',w',hr,Tk h2,⟨h3.os,h3.tape,h3.output,h3.size,fun k hk _=>h3.block k hk (by simp [Value.ownBlock])⟩,fun b hb=> ?_⟩
    rw [h4.2 ⟨rfl,rfl⟩]at hb;cases hb
   ·refine⟨_,w,?_,by simpa using uX,Chg.refl _ _,fun b hb=> .inr hb⟩
    have hfc:=run_firstCells_some (P:=P) w i.size 0 a 0 c [] (by simp) hnews
    simp [Builtin.append_,run_underlying ht,sizeOf,typeInfo,hi,Builtin.lenOf,hfc,storeCells]
  ·rcases hz0 with rfl | ⟨b,rfl⟩
   ·obtain⟨v',w',hr,h2,h3,_⟩:=run_append_own (P:=P) w w.heap.size t ty e i z size bytes ht hi hz hsize hby hzs Nd (.slice none 0 0) 0 [] (World.ownsRow_nil _ _ _ _) a m c news hl hnews h1 h63 hbytes (Nat.le_refl _)
    refine⟨v',w',hr,Tk h2,⟨h3.os,h3.tape,h3.output,h3.size,fun k hk _=>h3.block k hk (by simp [Value.ownBlock])⟩,fun b' hb'=> ?_⟩
    rcases h2.2 with⟨rfl,_⟩ | ⟨g,cap,cur,rfl,hg,_⟩
    ·cases hb'
    ·have:=TH hb'
     subst this;exact .inl hg
   ·obtain⟨v',w',hr,h2,h3⟩:=run_append_arg_grows (P:=P) w t ty e i z size bytes ht hi hz hsize hby hzs Nd b 0 0 [] (by simp) (fun j u hj=>by simp at hj) a m c news hl hnews (by omega) h63 hbytes
    refine⟨v',w',hr,Tk h2,⟨h3.os,h3.tape,h3.output,h3.size,fun k hk _=>h3.block k hk (by simp)⟩,fun b' hb'=> ?_⟩
    rcases h2.2 with⟨rfl,_⟩ | ⟨g,cap,cur,rfl,hg,_⟩
    ·cases hb'
    ·have:=TH hb'
     subst this;exact .inl hg
 obtain⟨v',w',hr,h2,h3,h4⟩:=run_append_own (P:=P) w 0 t ty e i z size bytes ht hi hz hsize hby hzs Nd v n xs uX a m c news hl hnews h1 h63 hbytes (Nat.zero_le _)
 refine⟨v',w',hr,Tk h2,Chg.own h3 (fun g hg=>by rw [hv0]at hg ⊢;simp only [Value.ownBlock,Option.some.injEq]at hg;rw [xS hc0,← hg];simp),?_⟩
 subst hsize;subst hby
 have hsmall:n + m≤9223372036854775807:=by simp only [maxLen]at h63;omega
 rcases uX.2 with⟨rfl,rfl⟩ | ⟨g,cap,cur,rfl,hbg,hg,hnc,hcm,OJ,htake⟩
 ·cases hv0
 ·by_cases hroom:n + m≤cap
  ·obtain⟨_,hr',_⟩:=run_append_fits (P:=P) w 0 t ty e i i.size ht hi rfl g n cap xs uX a m c news hl hnews h1 hroom
   rw [hr']at hr
   cases hr
   intro b hb;exact .inr hb
  ·have holds: ∀ j u,xs[j]? =some u→w.cell? ((⟨g,0,none⟩:Addr).add j)=some u:=uX.cells (g:=g) rfl
   have hr':=run_append_grow (P:=P) w t ty e i z ht hi hz ⟨g,0,none⟩ n cap xs uX.1 holds a m c news hl hnews (by omega) (by omega) (growslice_fits (by omega) hbytes)
   rw [hr']at hr
   cases hr
   intro b hb
   left
   simp only [lj]at hb
   revert hb
   generalize Nat.beq _ 0=q
   cases q with
   |true=>intro hb;cases hb
   |false=>intro hb;simp only [cond_false,List.mem_singleton]at hb;subst hb;exact Nat.le_refl _
theorem OQ(t ty e:TypeId)(i:TypeInfo)(size:Nat)(ht:P.underlying t=some (.slice e))(hi:P.info? e=some i)(v:Value)(n:Nat)(xs:List Value)(uX:Gl w e size v n xs):
  (Builtin.append_ #[t,t] ty #[v,.slice none 0 0]).run P w= .ok v w:=by
 rcases apK uX with⟨hz,rfl,rfl⟩ | ⟨uX,_⟩
 ·rcases hz with rfl | ⟨b,rfl⟩
  ·exact run_append_owned_none (P:=P) w 0 t ty e i size ht hi _ 0 [] (World.ownsRow_nil _ _ _ _)
  ·simp [Builtin.append_,run_underlying ht,sizeOf,typeInfo,hi,Builtin.lenOf,Builtin.firstCells,storeCells]
 ·exact run_append_owned_none (P:=P) w 0 t ty e i size ht hi v n xs uX
theorem qm.cell_one{H:Nat→Option Obj}{t:CTy}{cs:List Value}{xs:List (E t)}(h:qm H t cs xs): ∀ u∈cs,u.oneCell'=true:=by
 intro u hu
 obtain⟨j,hj⟩:=List.mem_iff_getElem?.1 hu
 have gV:=(List.getElem?_eq_some_iff.1 hj).1
 have hp:=DR t
 rw [h.1]at gV
 have hi:j / t.size < xs.length:=Nat.div_lt_of_lt_mul (by rw [Nat.mul_comm];exact gV)
 refine Rep.one t _ _ (h.2 _ _ (List.getElem?_eq_getElem hi)) u ?_
 refine List.mem_iff_getElem?.2 ⟨j % t.size,?_⟩
 rw [List.getElem?_take,if_pos (Nat.mod_lt _ hp),List.getElem?_drop,Nat.mul_comm,Nat.div_add_mod]
 exact hj
theorem Vn{own:Bool}{id:Nat}{e:TypeId}{t:CTy}{xs:List (E t)}(h:(Entry.row own e t xs).holds B ρ w id)(hf: ∀ b o,ρ.mem b=some o→w.heap[b]? =some o):
  (aeS (ρ id)∧xs= [])∨ ∃ b off cap news,ρ id= .slice (some ⟨b,off,none⟩) xs.length cap∧qm ρ.mem t news xs∧xs.length≤cap∧cap≤maxLen∧
   (∀ j u,news[j]? =some u→w.cell? ((⟨b,off,none⟩:Addr).add j)=some u):=by
 cases own with
 |false=>
  rcases NO.cells hf h with h | ⟨b,off,cap,arr,T,fz,h1,h2,h3,h4,_,h5⟩
  ·exact .inl h
  ·right
   rcases h5 with rfl | h5
   ·exact⟨b,off,cap,[],h1,qm.nil _ _,h2,h3,fun j u hj=>by simp at hj⟩
   ·refine⟨b,off,cap,_,h1,h5,h2,h3,fun j u hj=> ?_⟩
    rw [Hq,AA h4]
    rw [List.getElem?_take]at hj
    split at hj
    ·simpa using hj
    ·cases hj
 |true=>
  obtain⟨cs,h1,h2,_⟩:=h
  rcases h1.2 with⟨hv,hn⟩ | ⟨g,cap,cur,hv,_,hg,Nc,hcm,Nd,htk⟩
  ·exact .inl ⟨hv,List.length_eq_zero_iff.1 hn⟩
  ·refine .inr ⟨g,0,cap,cs,hv,h2,Nc,hcm,fun j u hj=> ?_⟩
   rw [Hq,AA hg]
   rw [← htk,List.getElem?_take]at hj
   split at hj
   ·simpa using hj
   ·cases hj
theorem EY{n:Nat}(h:n≤9223372036854775807):n≤maxLen:=by simp only [maxLen];omega
theorem alc(c:Ctx B ρ s a w look ent A){cl:Call}{x y:Operand}(ho:o.op= .call cl)(hb:cl.callee= .builtin .append)(Fo:cl.args.toList= [x,y])(h:amk P look ent A nid cl.argTypes x y=some r)(oI: ∀ i∈r.new,s.used i=false)(cD: ∀ b∈r.nd,b=true)(hC:qw B s ρ r o a K):o.wp P a w K Q:=by
 obtain⟨dst,op,ty,pos,after,guard⟩:=o
 simp only at ho;subst ho
 have Ix:cl.args= #[x,y]:=by rw [← Array.toArray_toList (xs:=cl.args),Fo]
 unfold amk at h
 split at h
 ·rename_i id jd t1 t2 hx hy hts
  split at h
  ·rename_i e t xs own e2 t' ys he1 he2
   split at h
   ·rename_i e' inf hT BC
    split at h
    ·rename_i z hz
     split at h
     ·rename_i ht
      subst ht
      cases mG:(Nat.beq t1 t2&&Nat.beq e' e&&Nat.beq inf.size t'.size&&Nat.beq z.cells.size t'.size)with
      |false=>simp [mG]at h
      |true=>
       simp only [mG,cond_true]at h
       cases h
       simp only [Bool.and_eq_true]at mG
       obtain⟨⟨⟨k1,k2⟩,k3⟩,k4⟩:=mG
       have k1:=Nat.eq_of_beq_eq_true k1
       have k2:=Nat.eq_of_beq_eq_true k2
       have k3:=Nat.eq_of_beq_eq_true k3
       have k4:=Nat.eq_of_beq_eq_true k4
       subst k1;subst k2
       have n1:xs.length + ys.length≤9223372036854775807:=by simpa using cD (decide (xs.length + ys.length≤9223372036854775807)) (by simp)
       have n2:(xs.length + ys.length) * inf.bytes≤140737488355328:=by simpa using cD (decide ((xs.length + ys.length) * inf.bytes≤140737488355328)) (by simp)
       have hat:cl.argTypes= #[t1,t1]:=by rw [← Array.toArray_toList (xs:=cl.argTypes),hts]
       have xD:=(c.evC hx).1
       have Pm:=(c.evC hy).1
       simp only [Cell.conc]at xD Pm
       have JT:=c.hE _ _ he1
       obtain⟨⟨cs,h1,h2,h3⟩,lI,_⟩:=c.hp.he _ _ JT
       obtain⟨hh2,_,_⟩:=c.hp.he _ _ (c.hE _ _ he2)
       have Xc:s.used nid=false:=oI nid (by simp)
       have fin: ∀ v' w' cs',(Builtin.append_ #[t1,t1] ty #[ρ id,ρ jd]).run P w= .ok v' w'→Gl w' e' t'.size v' (xs++ys).length cs'→qm ρ.mem t' cs' (xs++ys)→Chg w w' (fun k=>k∈lj (ρ id))→(∀ b∈lj v',w.heap.size≤b∨b∈lj (ρ id))→
         Oper.wp P ⟨dst,.call cl,ty,pos,after,guard⟩ a w K Q:=by
        intro v' w' cs' hr uX xO hg hbl
        obtain⟨hX,hp⟩:=c.hp.rowTo JT Xc hg uX xO hbl
        refine aP (u:=v') (w':=w') ?_ (hC _ v' w' hX ?_ hp)
        ·simp [execOp,resolve,hb,invoke,builtin,Ix,xD,Pm,hat,hr]
        ·simp only [one,SV.conc,V1.conc,Cell.conc]
         rw [lF _ _ (tW uX)]
       rcases Vn hh2 c.hp.hf.dat with⟨hv,hn⟩ | ⟨b,off,cap,news,hv,xO,Nc,hcm,hcells⟩
       ·subst hn
        rcases hv with hv | ⟨b,hv⟩
        ·have hr:=OQ (P:=P) (w:=w) t1 ty e' inf t'.size hT BC (ρ id) xs.length cs h1
         rw [← hv]at hr
         exact fin _ _ cs hr (by simpa using h1) (by simpa using h2) (Chg.refl _ _) fun b hb=> .inr hb
        ·obtain⟨v',w',hr,g1,g2,g3⟩:=DQ (P:=P) t1 ty e' inf z t'.size inf.bytes hT BC hz k3 rfl k4 (DR t') (ρ id) xs.length cs h1 b 0 0 [] (by simp) (fun j u hj=>by simp at hj) (fun u hu=>by simp at hu) (EY (by simpa using n1)) (by simpa using n2)
         rw [← hv]at hr
         exact fin _ _ _ hr (by simpa using g1) (by simpa using h2) g2 g3
       ·obtain⟨v',w',hr,g1,g2,g3⟩:=DQ (P:=P) t1 ty e' inf z t'.size inf.bytes hT BC hz k3 rfl k4 (DR t') (ρ id) xs.length cs h1 ⟨b,off,none⟩ ys.length cap news xO.1 hcells xO.cell_one (EY n1) n2
        rw [← hv]at hr
        refine fin _ _ _ hr (by rw [List.length_append];exact g1) (h2.append xO) g2 g3
     ·cases h
    ·cases h
   ·cases h
  ·rename_i e t xs e2 t' ys he1 he2
   split at h
   ·rename_i e' inf hT BC
    split at h
    ·rename_i z hz
     split at h
     ·rename_i ht
      subst ht
      cases mG:(Nat.beq t1 t2&&Nat.beq e' e&&Nat.beq inf.size t'.size&&Nat.beq z.cells.size t'.size&& !Nat.beq id jd)with
      |false=>simp [mG]at h
      |true=>
       simp only [mG,cond_true]at h
       cases h
       simp only [Bool.and_eq_true,Bool.not_eq_true']at mG
       obtain⟨⟨⟨⟨k1,k2⟩,k3⟩,k4⟩,k5⟩:=mG
       have k1:=Nat.eq_of_beq_eq_true k1
       have k2:=Nat.eq_of_beq_eq_true k2
       have k3:=Nat.eq_of_beq_eq_true k3
       have k4:=Nat.eq_of_beq_eq_true k4
       subst k1;subst k2
       have Vf:id≠jd:=fun hh=>by subst hh;simp at k5
       have n1:xs.length + ys.length≤9223372036854775807:=by simpa using cD (decide (xs.length + ys.length≤9223372036854775807)) (by simp)
       have n2:(xs.length + ys.length) * inf.bytes≤140737488355328:=by simpa using cD (decide ((xs.length + ys.length) * inf.bytes≤140737488355328)) (by simp)
       have hat:cl.argTypes= #[t1,t1]:=by rw [← Array.toArray_toList (xs:=cl.argTypes),hts]
       have xD:=(c.evC hx).1
       have Pm:=(c.evC hy).1
       simp only [Cell.conc]at xD Pm
       have JT:=c.hE _ _ he1
       have hent2:=c.hE _ _ he2
       obtain⟨⟨cs,Ls,h1,_⟩,lI,_⟩:=c.hp.he _ _ JT
       obtain⟨⟨ds,Ms,g1,g2,_⟩,hjd,_⟩:=c.hp.he _ _ hent2
       have Xc:s.used nid=false:=oI nid (by simp)
       have fin: ∀ v' w',(Builtin.append_ #[t1,t1] ty #[ρ id,ρ jd]).run P w= .ok v' w'→Gl w' e' t'.size v' (xs++ys).length (cs++ds)→Chg w w' (fun k=>k∈lj (ρ id))→(∀ b∈lj v',w.heap.size≤b∨b∈lj (ρ id))→
         Oper.wp P ⟨dst,.call cl,ty,pos,after,guard⟩ a w K Q:=by
        intro v' w' hr uX hg hbl
        obtain⟨ρ',hv,hX,hp⟩:=c.hp.treeAppend JT hent2 Vf Xc hg h1 g1 uX hbl
        refine aP (u:=v') (w':=w') ?_ (hC ρ' v' w' hX ?_ hp)
        ·simp [execOp,resolve,hb,invoke,builtin,Ix,xD,Pm,hat,hr]
        ·simp only [one,SV.conc,V1.conc,Cell.conc]
         exact hv.symm
       rcases g1.2 with⟨hv,hn⟩ | ⟨g,cap,cur,hv,hc0,hg,Nc,hcm,Nd,htk⟩
       ·have hds:ds= []:=List.length_eq_zero_iff.1 (by rw [g1.1,hn,Nat.zero_mul])
        have hys:ys= []:=List.length_eq_zero_iff.1 hn
        rcases hv with hv | ⟨b,hv⟩
        ·have hr:=OQ (P:=P) (w:=w) t1 ty e' inf t'.size hT BC (ρ id) xs.length cs h1
         rw [← hv]at hr
         exact fin _ _ hr (by subst hds hys;simpa using h1) (Chg.refl _ _) fun b hb=> .inr hb
        ·obtain⟨v',w',hr,u1,u2,u3⟩:=DQ (P:=P) t1 ty e' inf z t'.size inf.bytes hT BC hz k3 rfl k4 (DR t') (ρ id) xs.length cs h1 b 0 0 [] (by simp) (fun j u hj=>by simp at hj) (fun u hu=>by simp at hu) (EY (by omega)) (by rw [hn]at n2;exact n2)
         rw [← hv]at hr
         exact fin _ _ hr (by subst hds hys;simpa using u1) u2 u3
       ·obtain⟨v',w',hr,u1,u2,u3⟩:=DQ (P:=P) t1 ty e' inf z t'.size inf.bytes hT BC hz k3 rfl k4 (DR t') (ρ id) xs.length cs h1 ⟨g,0,none⟩ ys.length cap ds g1.1
         (fun j u hj=>by
          rw [Hq,AA hg]
          rw [← htk,List.getElem?_take]at hj
          split at hj
          ·simpa using hj
          ·cases hj) (g2.one g1.1) (EY n1) n2
        rw [← hv]at hr
        exact fin _ _ hr (by rw [List.length_append];exact u1) u2 u3
     ·cases h
    ·cases h
   ·cases h
  ·cases h
 ·rename_i id b c0 t1 t2 hx hy hts
  split at h
  ·rename_i e t xs he1
   split at h
   ·rename_i e' inf hT BC
    split at h
    ·rename_i z hz
     cases mG:(Nat.beq t1 t2&&Nat.beq e' e&&Nat.beq inf.size t.size&&Nat.beq z.cells.size t.size)with
     |false=>simp [mG]at h
     |true=>
      simp only [mG,cond_true]at h
      cases h
      simp only [Bool.and_eq_true]at mG
      obtain⟨⟨⟨k1,k2⟩,k3⟩,k4⟩:=mG
      have k1:=Nat.eq_of_beq_eq_true k1
      have k2:=Nat.eq_of_beq_eq_true k2
      have k3:=Nat.eq_of_beq_eq_true k3
      have k4:=Nat.eq_of_beq_eq_true k4
      subst k1;subst k2
      have n1:xs.length≤9223372036854775807:=by simpa using cD (decide (xs.length≤9223372036854775807)) (by simp)
      have n2:xs.length * inf.bytes≤140737488355328:=by simpa using cD (decide (xs.length * inf.bytes≤140737488355328)) (by simp)
      have hat:cl.argTypes= #[t1,t1]:=by rw [← Array.toArray_toList (xs:=cl.argTypes),hts]
      have xD:=(c.evC hx).1
      have Pm:=(c.evC hy).1
      simp only [Cell.conc]at xD Pm
      have JT:=c.hE _ _ he1
      obtain⟨⟨cs,h1,h2,h3⟩,lI,_⟩:=c.hp.he _ _ JT
      have Xc:s.used nid=false:=oI nid (by simp)
      obtain⟨v',w',hr,g1,g2,g3⟩:=DQ (P:=P) t1 ty e' inf z t.size inf.bytes hT BC hz k3 rfl k4 (DR t) (ρ id) xs.length cs h1 b 0 c0 [] (by simp) (fun j u hj=>by simp at hj) (fun u hu=>by simp at hu) (EY (by simpa using n1)) (by simpa using n2)
      have uX:Gl w' e' t.size v' xs.length cs:=by simpa using g1
      obtain⟨hX,hp⟩:=c.hp.rowTo JT Xc g2 uX h2 g3
      refine aP (u:=v') (w':=w') ?_ (hC _ v' w' hX ?_ hp)
      ·simp [execOp,resolve,hb,invoke,builtin,Ix,xD,Pm,hat,hr]
      ·simp only [one,SV.conc,V1.conc,Cell.conc]
       rw [lF _ _ (tW uX)]
    ·cases h
   ·cases h
  ·cases h
 ·rename_i id t1 t2 hx hy hts
  split at h
  ·rename_i e t xs he1
   split at h
   ·rename_i e' inf hT BC
    split at h
    ·rename_i z hz
     cases mG:(Nat.beq t1 t2&&Nat.beq e' e&&Nat.beq inf.size t.size&&Nat.beq z.cells.size t.size)with
     |false=>simp [mG]at h
     |true=>
      simp only [mG,cond_true]at h
      cases h
      simp only [Bool.and_eq_true]at mG
      obtain⟨⟨⟨k1,k2⟩,k3⟩,k4⟩:=mG
      have k1:=Nat.eq_of_beq_eq_true k1
      have k2:=Nat.eq_of_beq_eq_true k2
      have k3:=Nat.eq_of_beq_eq_true k3
      have k4:=Nat.eq_of_beq_eq_true k4
      subst k1;subst k2
      have n1:xs.length≤9223372036854775807:=by simpa using cD (decide (xs.length≤9223372036854775807)) (by simp)
      have n2:xs.length * inf.bytes≤140737488355328:=by simpa using cD (decide (xs.length * inf.bytes≤140737488355328)) (by simp)
      have hat:cl.argTypes= #[t1,t1]:=by rw [← Array.toArray_toList (xs:=cl.argTypes),hts]
      have xD:=(c.evC hx).1
      have Pm:=(c.evC hy).1
      simp only [Cell.conc]at xD Pm
      have JT:=c.hE _ _ he1
      obtain⟨⟨cs,h1,h2,h3⟩,lI,_⟩:=c.hp.he _ _ JT
      have Xc:s.used nid=false:=oI nid (by simp)
      have hr:=OQ (P:=P) (w:=w) t1 ty e' inf t.size hT BC (ρ id) xs.length cs h1
      obtain⟨hX,hp⟩:=c.hp.rowTo JT Xc (Chg.refl _ _) h1 h2 (fun b hb=> .inr hb)
      refine aP (u:=ρ id) (w':=w) ?_ (hC _ (ρ id) w hX ?_ hp)
      ·simp [execOp,resolve,hb,invoke,builtin,Ix,xD,Pm,hat,hr]
      ·simp only [one,SV.conc,V1.conc,Cell.conc]
       rw [lF _ _ (tW h1)]
    ·cases h
   ·cases h
  ·cases h
 ·cases h
end
end Go.SX
namespace Go.SX
open Go.RowKit
section
variable{P:Program}{tr:Bool}{s:St}{look:Nat→Option SS}{ent:Nat→Option Entry}{A:List (Nat×Bool)}{nid:Nat}{o:Oper}{r:Raw}{B:Base}{ρ:Nm}{a:Act}{w:World}{K:Act→World→Prop}{Q:Exit→Act→World→Prop}
theorem Nm.of_nm{ρ ρ':Nm}(h:ρ'.nm=ρ.nm)(i:Nat):ρ' i=ρ i:=by simp [Nm.of,h]
theorem ars{ρ ρ':Nm}(h:ρ'.nm=ρ.nm)(c:Cell):c.conc ρ'=c.conc ρ:=
 Cell.conc_congr (U:=fun _=>true) (fun id _=>Nm.of_nm h id) (by cases c <;> simp [Cell.inU])
theorem ac2{ρ ρ':Nm}(h:ρ'.nm=ρ.nm)(cs:List Cell):cs.map (Cell.conc ρ')=cs.map (Cell.conc ρ):=
 List.map_congr_left fun c _=>ars h c
theorem look?_frz_not{ent:Nat→Option Entry}: ∀ {l:List Nat} {i:Nat},i∉l→look? (frz ent l) i=none
 | [],i,_=>rfl
 |id::r,i,h=>by
  simp only [List.mem_cons,not_or]at h
  simp only [frz]
  split
  ·simp only [look?]
   cases hb:Nat.beq id i with
   |true=>exact(h.1 (Nat.eq_of_beq_eq_true hb).symm).elim
   |false=>exact look?_frz_not h.2
  ·exact look?_frz_not h.2
theorem afG: ∀ (t:CTy) (x:E t) (n:Nat),t.flat=true→(yc t x n).map (Cell.conc ρ)=ahK t x
 | .int _,_,_,_=>rfl
 | .bool,_,_,_=>rfl
 | .str,_,_,_=>rfl
 | .sl _ _,_,_,h=>by cases h
 | .pair a b,p,n,h=>by
  simp only [CTy.flat,Bool.and_eq_true]at h
  simp only [yc,List.map_append,ahK,afG a p.1 n h.1,afG b p.2 _ h.2]
theorem aim{α:Type}(cur N:List α)(k off z m:Nat)(h1:off + N.length≤z)(h2:k + z≤m)(h3:m≤cur.length):
  (cur.take (k + off)++N++cur.drop (k + off + N.length)).take m=
   (cur.take m).take k++((((cur.take m).drop k).take z).take off++N++(((cur.take m).drop k).take z).drop (off + N.length))++(cur.take m).drop (k + z):=by
 apply List.ext_getElem?
 intro j
 simp only [List.getElem?_take,List.getElem?_append,List.getElem?_drop,List.length_append,List.length_take,List.length_drop]
 have e1:min (k + off) cur.length=k + off:=by omega
 have e2:min m cur.length=m:=by omega
 have e3:min k m=k:=by omega
 have e4:min z (m - k)=z:=by omega
 have e5:min off z=off:=by omega
 simp only [e1,e2,e3,e4,e5]
 by_cases c1:j < k
 ·have:j < k + off:=by omega
  simp [c1,this,show j < m by omega,show j < k + off + N.length by omega,show j < k + (off + N.length + (z - (off + N.length))) by omega]
 ·by_cases c2:j < k + off
  ·simp [c1,c2,show j < m by omega,show j < k + off + N.length by omega,show j < k + (off + N.length + (z - (off + N.length))) by omega,show j - k < off + N.length by omega,show j - k < off by omega,show j - k < z by omega,show k + (j - k)=j by omega]
  ·by_cases c3:j < k + off + N.length
   ·simp [c1,c2,c3,show j < m by omega,show j < k + (off + N.length + (z - (off + N.length))) by omega,show j - k < off + N.length by omega,show ¬ j - k < off by omega,show j - (k + off)=j - k - off by omega]
   ·by_cases c4:j < k + z
    ·simp [c1,c3,show j < m by omega,show j < k + (off + N.length + (z - (off + N.length))) by omega,show ¬ j - k < off + N.length by omega,show off + N.length + (j - k - (off + N.length)) < z by omega,
      show k + (off + N.length + (j - k - (off + N.length))) < m by omega]
     congr 1;omega
    ·by_cases c5:j < m
     ·simp [c3,c5,show ¬ j < k + (off + N.length + (z - (off + N.length))) by omega,show k + z + (j - (k + (off + N.length + (z - (off + N.length))))) < m by omega]
      congr 1;omega
     ·simp [c5,show ¬ j < k + (off + N.length + (z - (off + N.length))) by omega,show ¬ k + z + (j - (k + (off + N.length + (z - (off + N.length))))) < m by omega]
theorem apW{α:Type}{cs D:List α}{k z n:Nat}(hl:cs.length=n * z)(hk:k < n)(hD:D.length=z):
  ((cs.take (k * z)++D++cs.drop (k * z + z)).drop (k * z)).take z=D∧ ∀ j,j≠k→j < n→((cs.take (k * z)++D++cs.drop (k * z + z)).drop (j * z)).take z=(cs.drop (j * z)).take z:=by
 have Nc:=AJ (z:=z) hk
 refine⟨?_,fun j hj hjn=> ?_⟩
 ·rw [List.append_assoc,List.drop_append,List.drop_take,Nat.sub_self,List.take_zero,List.nil_append,List.length_take,hl,Nat.min_eq_left (by omega),Nat.sub_self,List.drop_zero,List.take_append_of_le_length (by omega),← hD,List.take_length]
 ·by_cases gV:j < k
  ·have h1:j * z + z≤k * z:=AJ gV
   have e:(cs.take (k * z)++D++cs.drop (k * z + z)).drop (j * z)=(cs.drop (j * z)).take (k * z - j * z)++(D++cs.drop (k * z + z)):=by
    rw [List.append_assoc,List.drop_append_of_le_length (by rw [List.length_take,hl];omega),List.drop_take]
   rw [e,List.take_append_of_le_length (by rw [List.length_take,List.length_drop,hl];have:=AJ (z:=z) hjn;omega),List.take_take,Nat.min_eq_left (by omega)]
  ·have hgt:k < j:=by omega
   have h1:k * z + z≤j * z:=AJ hgt
   have e:(cs.take (k * z)++D++cs.drop (k * z + z)).drop (j * z)=cs.drop (j * z):=by
    rw [List.drop_append,List.drop_eq_nil_of_le (by rw [List.length_append,List.length_take,hl,hD];omega),List.nil_append,List.length_append,List.length_take,hl,hD,List.drop_drop]
    congr 1;omega
   rw [e]
theorem Hp.treeSet{ent:Nat→Option Entry}{used:Nat→Bool}(h:Hp B ρ ent used w){id:Nat}{e:TypeId}{t:CTy}{xs:List (E t)}{k:Nat}{hc:List Cell}(he:ent id=some (.tree e t xs (some (k,hc)))){ns:List Cell}{off:Nat}
  (hns: ∀ c∈ns,c.inU used) (qg:off + ns.length≤t.size):
  ∃ g cap cur,ρ id= .slice (some ⟨g,0,none⟩) xs.length cap∧w.heap[g]? =some (.cells cur e (0,0))∧k * t.size + t.size≤cur.size∧
   Ext B used ρ ρ∧Hp B ρ (bG ent [(id,.tree e t xs (some (k,hc.take off++ns++hc.drop (off + ns.length))))]) used (w.setRow g (cur.toList.take (k * t.size + off)++ns.map (Cell.conc ρ)++cur.toList.drop (k * t.size + off + ns.length)).toArray):=by
 obtain⟨⟨cs,Ls,h1,⟨t1,t2,t3,t4⟩,h3,h4,h5⟩,lI,Ou⟩:=h.he _ _ he
 obtain⟨hk,hLk,hch⟩:=t2 k hc rfl
 have gV:=AJ (z:=t.size) hk
 rcases h1.2 with⟨_,hn⟩ | ⟨g,cap,cur,hv,hc0,hg,Nc,hcm,Nd,htk⟩
 ·omega
 have hle2:xs.length * t.size≤cur.size:=by rw [Nd];exact Nat.mul_le_mul_right _ Nc
 refine⟨g,cap,cur,hv,hg,by omega,?_⟩
 have hgo: ∀ b∈sL Ls,b≠g:=fun b hb hbg=>h4 b (by rw [hv,xS hc0,hbg];simp) (by rw [h3];exact hb)
 obtain⟨W,hW⟩: ∃ W,W=w.setRow g (cur.toList.take (k * t.size + off)++ns.map (Cell.conc ρ)++cur.toList.drop (k * t.size + off + ns.length)).toArray:=⟨_,rfl⟩
 rw [← hW]
 have hspl:=aim cur.toList (ns.map (Cell.conc ρ)) (k * t.size) off t.size (xs.length * t.size) (by simpa using qg) gV (by simpa using hle2)
 rw [htk,hch,List.length_map]at hspl
 have ZP:cs.length=xs.length * t.size:=h1.1
 have hhc:hc.length=t.size:=by
  have:=congrArg List.length hch
  rw [List.length_take,List.length_drop,List.length_map,ZP]at this
  omega
 have hDl:((hc.map (Cell.conc ρ)).take off++ns.map (Cell.conc ρ)++(hc.map (Cell.conc ρ)).drop (off + ns.length)).length=t.size:=by
  simp only [List.length_append,List.length_take,List.length_drop,List.length_map];omega
 obtain⟨s1,s2⟩:=apW (n:=xs.length) ZP hk hDl
 have:=h.toTree (ρ':=ρ) (w':=W) (X:=fun b=>b=g) (G:= []) (id:=id) (new:= []) (e:=e) (t:=t) (xs:=xs) (ho:=some (k,hc.take off++ns++hc.drop (off + ns.length)))
  (cs:=(cur.toList.take (k * t.size + off)++ns.map (Cell.conc ρ)++cur.toList.drop (k * t.size + off + ns.length)).take (xs.length * t.size)) (Ls:=Ls)
  (by rw [hW];exact Chg.setRow w g _) (fun _ _=>rfl) rfl (fun _ _=>rfl) (fun g hg=>by cases hg) lI (fun c hcm=> ?_) (fun b hb=>⟨id,.inl rfl,_,he,by subst hb;simp only [Entry.ob,hv,xS hc0];simp⟩)
  (fun b hb=> .inr ⟨id,.inl rfl,_,he,by simp only [Entry.ob,h3];exact hb⟩) ?_ ⟨t1,fun k' hc' hk'=> ?_,fun j y l hj hy hl=> ?_,t4⟩ h3 (fun b hb=>by rw [← h3];exact h4 b hb)
 ·exact⟨Ext.refl _ _ _,this.2⟩
 ·simp only [List.append_assoc,List.mem_append]at hcm
  rcases hcm with hcm | hcm | hcm
  ·exact Ou c (List.mem_of_mem_take hcm)
  ·exact hns c hcm
  ·exact Ou c (List.mem_of_mem_drop hcm)
 ·refine⟨?_,.inr ⟨g,cap,(cur.toList.take (k * t.size + off)++ns.map (Cell.conc ρ)++cur.toList.drop (k * t.size + off + ns.length)).toArray,hv,hc0,?_,Nc,hcm,?_,?_⟩⟩
  ·simp only [List.length_take,List.length_append,List.length_map,List.length_drop,Array.length_toList];omega
  ·rw [hW];exact setRow_heap w g _ _ e _ hg
  ·simp only [List.size_toArray,List.length_take,List.length_append,List.length_map,List.length_drop,Array.length_toList];omega
  ·rfl
 ·cases hk'
  refine⟨hk,hLk,?_⟩
  rw [hspl,s1]
  simp only [List.map_append,List.map_take,List.map_drop]
 ·have Vf:j≠k:=hj k _ rfl
  have hjn:j < xs.length:=(List.getElem?_eq_some_iff.1 hy).1
  rw [hspl,s2 j Vf hjn]
  refine(t3 j y l (fun a b hab=>by cases hab;exact Vf) hy hl).keep fun b hb=> ?_
  rw [hW]
  exact setRow_other w g b _ fun e=>hgo b (rC.2 ⟨j,l,hl,hb⟩) e
theorem amX(c:Ctx B ρ s a w look ent A){T:TypeId}{x y:Operand}(ho:o.op= .store T x y)(h:apj P look ent A nid T x y=some r)(oI: ∀ i∈r.new,s.used i=false)(cD: ∀ b∈r.nd,b=true)(hC:qw B s ρ r o a K):o.wp P a w K Q:=by
 obtain⟨dst,op,ty,pos,after,guard⟩:=o
 simp only at ho;subst ho
 unfold apj at h
 split at h
 ·rename_i id off v hx hy
  split at h
  ·rename_i U cs ns he hns
   cases mG:JK P T off cs.length ns with
   |false=>simp [mG]at h
   |true=>
    simp [mG]at h;subst h
    have JT:=c.hE _ _ he
    obtain⟨⟨b,h1,h2,_⟩,_,Ou⟩:=c.hp.he _ _ JT
    have xD:=(c.evC hx).1
    obtain⟨Pm,hyin⟩:=c.ev1 hy
    have hnin:=V1.cells?_inU hyin hns
    have hr:=Wj (ρ:=ρ) (w:=w) (b:=b) (off:=off) mG (fun h=>by simpa using h) (V1.cells?_conc ρ hns) h2
    obtain⟨hX,hp⟩:=c.hp.setBox JT (ns:=cs.take off++ns++cs.drop (off + ns.length)) (fun c hc=>by
     simp only [List.append_assoc,List.mem_append]at hc
     rcases hc with hc | hc | hc
     ·exact Ou c (List.mem_of_mem_take hc)
     ·exact hnin c hc
     ·exact Ou c (List.mem_of_mem_drop hc))
    have hbk:TG (ρ id)=b:=by rw [h1];rfl
    rw [hbk]at hp
    rw [ahh,hbk]at xD
    obtain⟨W,hW⟩: ∃ W,W=w.setRow b ((cs.take off++ns++cs.drop (off + ns.length)).map (Cell.conc ρ)).toArray:=⟨_,rfl⟩
    rw [← hW]at hp
    have hr':(storeVar T ⟨b,off,none⟩ (v.conc ρ)).run P w= .ok () W:=by
     rw [hr,hW];simp [List.map_take,List.map_drop]
    refine Xb (w':=W) ?_ (hC ρ _ W hX (SV.conc_ofValue ρ undef).symm (by simpa [aaF,List.append_assoc] using hp))
    simp [execOp,Instr.storeAt,xD,Pm,Instr.sureAddr,hr']
  ·cases h
 ·rename_i id z i off v hx hy
  split at h
  ·rename_i e t xs ns he hns
   cases mG:(Nat.beq z t.size&&JK P T off t.size ns&&(t.flat||Nat.beq off 0&&Nat.beq ns.length t.size))with
   |false=>simp [mG]at h
   |true=>
    simp only [mG,cond_true]at h
    simp only [Bool.and_eq_true]at mG
    obtain⟨⟨k1,k2⟩,k3⟩:=mG
    have:=Nat.eq_of_beq_eq_true k1;subst this
    split at h
    ·rename_i y' l ZP
     cases hm:memN l id with
     |true=>simp [hm]at h
     |false=>
      simp only [hm,cond_false]at h
      cases h
      have hi:i < xs.length:=by simpa using cD (decide (i < xs.length)) (by simp)
      have JT:=c.hE _ _ he
      have xD:=(c.evC hx).1
      obtain⟨Pm,hyin⟩:=c.ev1 hy
      obtain⟨ρ1,n1,x1,h1⟩:=c.hp.freezes c.hE l
      have hnl:id∉l:=fun hh=>by rw [memN_mem.2 hh]at hm;cases hm
      have hent1:bG s.ent (frz ent l) id=some (.row true e t xs):=by simp only [bG,look?_frz_not hnl];exact JT
      obtain⟨⟨cs,g1,g2,g3⟩,_,_⟩:=h1.he _ _ hent1
      have xO:=TI c.hE h1 t _ _ _ ZP fun i hi=>hi
      have gV:=AJ (z:=t.size) hi
      rcases g1.2 with⟨_,hn⟩ | ⟨g,cap,cur,hv,hc0,hg,Nc,hcm,Nd,htk⟩
      ·omega
      ·have lI:=Nm.of_nm n1 id
       have hle2:xs.length * t.size≤cur.size:=by rw [Nd];exact Nat.mul_le_mul_right _ Nc
       have hns':off + ns.length≤t.size:=by
        unfold JK at k2
        split at k2
        ·simp only [Bool.and_eq_true]at k2;exact Nat.le_of_ble_eq_true k2.1.2
        ·cases k2
       have hr:=Wj (ρ:=ρ) (w:=w) (b:=g) (off:=i * t.size + off) (cur:=cur) k2 (fun h=>by omega) (V1.cells?_conc ρ hns) hg
       obtain⟨W,hW⟩: ∃ W,W=w.setRow g (cur.toList.take (i * t.size + off)++ns.map (Cell.conc ρ)++cur.toList.drop (i * t.size + off + ns.length)).toArray:=⟨_,rfl⟩
       rw [← hW]at hr
       have hgr:w.grownBy W (ρ1 id).ownBlock:=by
        rw [hv,hW]
        exact⟨rfl,rfl,rfl,by simp [World.setRow],fun k _ hk=>setRow_other w g k _ fun e=>hk (by simp [Value.ownBlock,e])⟩
       have hspl:=aim cur.toList (ns.map (Cell.conc ρ)) (i * t.size) off t.size (xs.length * t.size) (by simpa using hns') gV (by simpa using hle2)
       have uX:W.ownsRow 0 e t.size (ρ1 id) (xs.set i y').length ((cur.toList.take (i * t.size + off)++ns.map (Cell.conc ρ)++cur.toList.drop (i * t.size + off + ns.length)).take (xs.length * t.size)):=by
        refine⟨?_,.inr ⟨g,cap,(cur.toList.take (i * t.size + off)++ns.map (Cell.conc ρ)++cur.toList.drop (i * t.size + off + ns.length)).toArray,?_,Nat.zero_le _,?_,?_,hcm,?_,?_⟩⟩
        ·simp only [List.length_set,List.length_take,List.length_append,List.length_map,List.length_drop,Array.length_toList];omega
        ·rw [List.length_set];exact hv
        ·rw [hW];exact setRow_heap w g _ _ e _ hg
        ·rw [List.length_set];exact Nc
        ·simp only [List.size_toArray,List.length_take,List.length_append,List.length_map,List.length_drop,Array.length_toList];omega
        ·rw [List.length_set]
       have hds:qm ρ1.mem t ((cur.toList.take (i * t.size + off)++ns.map (Cell.conc ρ)++cur.toList.drop (i * t.size + off + ns.length)).take (xs.length * t.size)) (xs.set i y'):=by
        rw [List.length_map]at hspl
        rw [hspl,htk]
        refine qm.set g2 hi ?_
        have hch:=g2.2 i _ (adu (d:=xE t) hi)
        rw [ac2 n1]at xO
        simp only [List.map_append,List.map_take,List.map_drop]at xO
        rcases Bool.or_eq_true_iff.1 k3 with hf | hf
        ·rw [afG t _ nid hf]at xO
         rw [Rep.flat t _ _ hf hch];exact xO
        ·simp only [Bool.and_eq_true]at hf
         have f1:=Nat.eq_of_beq_eq_true hf.1
         have f2:=Nat.eq_of_beq_eq_true hf.2
         subst f1
         rw [f2]at xO ⊢
         rw [List.take_zero,List.drop_eq_nil_of_le (by rw [List.length_map,aaA];omega)]at xO
         rw [List.take_zero,List.drop_eq_nil_of_le (by rw [List.length_take];omega)]
         exact xO
       obtain⟨hX,hp⟩:=h1.rowSet hent1 (Chg.own hgr fun k hk=>by rw [hv]at hk ⊢;simp only [Value.ownBlock,Option.some.injEq]at hk;rw [xS hc0,← hk];simp) (Tk uX) hds
       rw [CH]at hp
       refine Xb (w':=W) ?_ (hC ρ1 _ W (x1.trans hX fun _ h=>h) (SV.conc_ofValue ρ1 undef).symm hp)
       rw [Ve]at xD
       rw [lI]at hv
       simp only [hv,TG,afE,Nat.zero_add]at xD
       simp [execOp,Instr.storeAt,xD,Pm,Instr.sureAddr,hr]
    ·cases h
  ·rename_i e t xs ns he hns
   cases mG:(Nat.beq z t.size&&JK P T off t.size ns)with
   |false=>simp [mG]at h
   |true=>
    simp only [mG,cond_true]at h
    simp only [Bool.and_eq_true]at mG
    obtain⟨k1,k2⟩:=mG
    have:=Nat.eq_of_beq_eq_true k1;subst this
    cases h
    have hi:i < xs.length:=by simpa using cD (decide (i < xs.length)) (by simp)
    have JT:=c.hE _ _ he
    have xD:=(c.evC hx).1
    obtain⟨Pm,hyin⟩:=c.ev1 hy
    have hnin:=V1.cells?_inU hyin hns
    obtain⟨hid0,hidu,_⟩:=c.hp.he _ _ JT
    obtain⟨ρ1,hX1,hm1,h1⟩:=c.hp.treeOpen JT (adu (d:=xE t) hi) (nid:=nid) (fun j hj=>oI j hj)
    have hns':off + ns.length≤t.size:=by
     unfold JK at k2
     split at k2
     ·simp only [Bool.and_eq_true]at k2;exact Nat.le_of_ble_eq_true k2.1.2
     ·cases k2
    obtain⟨g,cap,cur,hv,hg,OJ,hX2,h2⟩:=h1.treeSet (id:=id) (e:=e) (t:=t) (xs:=xs) (k:=i) (hc:=yc t (xs[i]?.getD (xE t)) nid) (by simp [bG,look?]) (ns:=ns) (off:=off) (fun c hc=>Cell.inU_mono jF (hnin c hc)) hns'
    have hcc:ns.map (Cell.conc ρ1)=ns.map (Cell.conc ρ):=wb hX1.nm hnin
    rw [hcc]at h2
    have hr:=Wj (ρ:=ρ) (w:=w) (b:=g) (off:=i * t.size + off) (cur:=cur) k2 (fun h=>by omega) (V1.cells?_conc ρ hns) hg
    obtain⟨W,hW⟩: ∃ W,W=w.setRow g (cur.toList.take (i * t.size + off)++ns.map (Cell.conc ρ)++cur.toList.drop (i * t.size + off + ns.length)).toArray:=⟨_,rfl⟩
    rw [← hW]at hr h2
    have hee:bG (bG s.ent ((id,Entry.tree e t xs (some (i,yc t (xs[i]?.getD (xE t)) nid)))::GA t (xs[i]?.getD (xE t)) nid)) [(id,.tree e t xs (some (i,(yc t (xs[i]?.getD (xE t)) nid).take off++ns++(yc t (xs[i]?.getD (xE t)) nid).drop (off + ns.length))))]=
      bG s.ent ((id,.tree e t xs (some (i,(yc t (xs[i]?.getD (xE t)) nid).take off++ns++(yc t (xs[i]?.getD (xE t)) nid).drop (off + ns.length))))::GA t (xs[i]?.getD (xE t)) nid):=by
     funext j
     simp only [bG,look?]
     cases Nat.beq id j <;> rfl
    rw [hee]at h2
    refine Xb (w':=W) ?_ (hC ρ1 _ W hX1 (SV.conc_ofValue ρ1 undef).symm h2)
    have hid1:ρ1 id=ρ id:=hX1.nm id hidu
    rw [hid1]at hv
    rw [Ve]at xD
    simp only [hv,TG,afE,Nat.zero_add]at xD
    simp [execOp,Instr.storeAt,xD,Pm,Instr.sureAddr,hr]
  ·cases h
 ·cases h
theorem Zo(c:Ctx B ρ s a w look ent A): ∀ {xs:List Operand} {vs:List SV},evs look A xs=some vs→xs.map a.eval=vs.map (SV.conc ρ)∧ ∀ v∈vs,v.inU s.used
 | [],vs,h=>by simp [evs]at h;subst h;simp
 |x::xs,vs,h=>by
  simp only [evs]at h
  split at h
  ·rename_i v vs' h1 h2
   cases h
   obtain⟨e1,i1⟩:=c.ev h1
   obtain⟨e2,i2⟩:=Zo c h2
   refine⟨by simp [e1,e2],fun u hu=> ?_⟩
   rcases List.mem_cons.1 hu with rfl | hu
   ·exact i1
   ·exact i2 u hu
  ·cases h
theorem al0: ∀ {vs:List SV} {ids:List Nat},aqi vs=some ids→vs.map (SV.conc ρ)=ids.map fun id=>Value.pointer (some ⟨TG (ρ id),0,none⟩)
 | [],ids,h=>by simp [aqi]at h;subst h;rfl
 |v::vs,ids,h=>by
  unfold aqi at h
  split at h
  ·cases ‹v::vs= []›
  ·rename_i id r Xh
   cases Xh
   cases hq:aqi vs with
   |none=>simp [hq]at h
   |some l=>simp [hq]at h;subst h;simp [al0 hq,SV.conc,V1.conc,Cell.conc]
  ·cases h
theorem ahI{ρ:Nm}: ∀ {cs:List Cell} {bs:List (Nat×Option Value)},aor cs=some bs→cs.map (Cell.conc ρ)=bs.map (bcV ρ)
 | [],bs,h=>by simp [aor]at h;subst h;rfl
 | .ref id::r,bs,h=>by
  simp only [aor,Option.map_eq_some_iff]at h
  obtain⟨l,hl,rfl⟩:=h
  rw [List.map_cons,List.map_cons,ahI hl];rfl
 | .val v::r,bs,h=>by
  simp only [aor,Option.map_eq_some_iff]at h
  obtain⟨l,hl,rfl⟩:=h
  rw [List.map_cons,List.map_cons,ahI hl];rfl
 | .ptr _ _::_,bs,h=>by cases h
 | .el _ _ _ _::_,bs,h=>by cases h
 | .vw _ _ _::_,bs,h=>by cases h
 | .clo _ _::_,bs,h=>by cases h
 | .bnd _ _::_,bs,h=>by cases h
theorem ai5(c:Ctx B ρ s a w look ent A){fn:Fn}{first captured:Array Operand}(ho:o.op= .makeFunc fn first captured)(h:ahZ look A fn first captured=some r)(hC:qw B s ρ r o a K):o.wp P a w K Q:=by
 obtain⟨dst,op,ty,pos,after,guard⟩:=o
 simp only at ho;subst ho
 unfold ahZ at h
 split at h
 ·rename_i f x hf hvs
  have hfa:first= #[x]:=by rw [← Array.toArray_toList (xs:=first),hf]
  have hcv:=(Zo c hvs).1
  have hca:captured.map a.eval= #[]:=by
   have:(captured.map a.eval).toList= []:=by rw [Array.toList_map];exact hcv
   rw [← Array.toArray_toList (xs:=captured.map a.eval),this]
  split at h
  ·rename_i cs hx
   split at h
   ·rename_i bs hbs
    cases h
    have xD:=(c.ev hx).1
    have hr: ∀ w,(execOp a.eval ⟨dst,.makeFunc (.func f) first captured,ty,pos,after,guard⟩).run P w= .ok (.value (.func (.func f) #[.agg (bs.map (bcV ρ)).toArray] #[])) w:=fun w=>by
     simp only [execOp,Instr.makeFunc,hfa,hca,List.map_toArray,List.map_cons,List.map_nil,xD,SV.conc,V1.conc,ahI hbs]
     rfl
    exact aP (hr w) (qw.same (v:=one (.bnd f bs)) rfl hC c.hp)
   ·cases h
  ·cases h
 ·rename_i f vs hf hvs
  have hfa:first= #[]:=by rw [← Array.toArray_toList (xs:=first),hf]
  have hcv:=(Zo c hvs).1
  have hca:captured.map a.eval=(vs.map (SV.conc ρ)).toArray:=by
   rw [← hcv,← Array.toArray_toList (xs:=captured.map a.eval),Array.toList_map]
  have hr: ∀ w,(execOp a.eval ⟨dst,.makeFunc (.func f) first captured,ty,pos,after,guard⟩).run P w= .ok (.value (.func (.func f) #[] (vs.map (SV.conc ρ)).toArray)) w:=fun w=>by
   simp [execOp,Instr.makeFunc,hfa,hca]
  split at h
  ·cases h
   exact aP (hr w) (qw.same (v:=one (.val (.func (.func f) #[] #[]))) rfl hC c.hp)
  ·split at h
   ·rename_i ids hids
    cases h
    refine aP (hr w) ?_
    rw [al0 hids]
    exact qw.same (v:=one (.clo f ids)) rfl hC c.hp
   ·cases h
 ·cases h
theorem arm(c:Ctx B ρ s a w look ent A){x:Operand}(h:vok look A x=true):vof look A x=a.eval x:=by
 unfold vok at h
 unfold vof
 cases he:SX.ev look A x with
 |none=>simp [he]at h
 |some v=>
  simp only [he]at h
  cases ht:v.toValue? with
  |none=>simp [ht]at h
  |some u=>rw [(c.ev he).1,SV.toValue?_conc ρ ht];simp only [ht]
theorem xQ(c:Ctx B ρ s a w look ent A)(hsel: ∀ cs b,o.op≠ .select cs b)(h:OI P look A o=some r)(hC:qw B s ρ r o a K):o.wp P a w K Q:=by
 unfold OI at h
 cases Zp:(OE o.op).all (vok look A)with
 |false=>simp [Zp]at h
 |true=>
  simp only [Zp,cond_true]at h
  have hcg:execOp a.eval o=execOp (vof look A) o:=execOp_congr o hsel fun x hx=>by
   have hm:=aqc hx
   exact(arm c (List.all_eq_true.1 Zp x hm)).symm
  split at h
  ·rename_i v hv
   cases h
   have hrun:=adi P _ _ hv w
   rw [← hcg]at hrun
   refine aP hrun ?_
   have:=qw.same (v:= .ofValue v) rfl hC c.hp
   rwa [SV.conc_ofValue]at this
  ·cases h
end
end Go.SX
