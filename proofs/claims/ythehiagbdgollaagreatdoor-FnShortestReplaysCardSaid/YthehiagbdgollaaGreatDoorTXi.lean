import Derived.Test.YthehiagbdgollaaGreatDoorTXB
import Derived.ProofKit
import Derived.OpenShut
set_option linter.unusedSimpArgs false
set_option linter.unusedVariables false
open Nat renaming eq_of_beq_eq_true → q8
open Bool renaming and_eq_true → q9
namespace Go.SX
open Go.RowKit
inductive CK where
 |int (k:IntKind)
 |bool
 |str
 |sl (t:TypeId)
def aiv(P:Program)(f:TypeId→Option (List CK)):Nat→List Field→Option (List CK×Nat)
 |off,[]=>some ([],off)
 |off,x::r=>bif Nat.beq x.offset off then
   match f x.type,aiv P f (off + P.cellsOf x.type) r with
   |some ks,some (l,e)=>some (ks++l,e)
   |_,_=>none
  else none
def flat(P:Program):Nat→TypeId→Option (List CK)
 |0,_=>none
 |n + 1,t=>match P.underlying t with
  |some .bool=>some [.bool]
  |some (.int k)=>some [.int k]
  |some .string=>some [.str]
  |some (.slice _)=>some [.sl t]
  |some (.struct fs)=>match aiv P (flat P n) 0 fs.toList with
   |some (l,e)=>bif Nat.beq e (P.cellsOf t)then some l else none
   |none=>none
  |_=>none
section
variable{H:Type}{enc:TypeId×Value→H}{P:Program}{w:World}{base:Nat}{spare:Nat→Bool}{held:Bool}
def CK.ok(enc:TypeId×Value→H)(P:Program)(w:World)(base:Nat)(spare:Nat→Bool)(held:Bool):CK→Value→Prop
 | .int k,v=> ∃ x,v= .int k x∧(Lit.int k x).wf=true
 | .bool,v=> ∃ b,v= .bool b
 | .str,v=> ∃ s,v= .string s∧s.size≤maxLen
 | .sl t,v=> ∃ fuel y,DataW.trod enc P w base spare held fuel t [v]=some y
inductive All2 {α β:Type} (p:α→β→Prop):List α→List β→Prop
 |nil:All2 p [] []
 |cons {a b as bs}:p a b→All2 p as bs→All2 p (a::as) (b::bs)
theorem All2.append{α β:Type}{p:α→β→Prop}: ∀ {a b:List α} {c d:List β},All2 p a c→All2 p b d→All2 p (a++b) (c++d)
 |_,_,_,_,.nil,h=>h
 |_,_,_,_,.cons h t,h'=> .cons h (t.append h')
def CTy.ks:CTy→List CK
 | .int k=> [.int k]
 | .bool=> [.bool]
 | .str=> [.str]
 | .pair a b=>a.ks++b.ks
 | .sl e _=> [.sl e]
 | .fn=> []
theorem ajy{α:Type}(n:Nat)(p:Nat→α→Prop)(h: ∀ i,i < n→ ∃ x,p i x): ∃ xs:List α,xs.length=n∧ ∀ i x,xs[i]? =some x→p i x:=by
 induction n with
 |zero=>exact⟨[],rfl,fun i x hx=>by simp at hx⟩
 |succ n ih=>
  obtain⟨xs,h1,h2⟩:=ih fun i hi=>h i (by omega)
  obtain⟨y,hy⟩:=h n (by omega)
  refine⟨xs++ [y],by simp [h1],fun i x hx=> ?_⟩
  by_cases hi:i < xs.length
  ·rw [List.getElem?_append_left hi]at hx;exact h2 i x hx
  ·rw [List.getElem?_append_right (by omega)]at hx
   have:i=n:=by
    have:=(List.getElem?_eq_some_iff.1 hx).1
    simp at this;omega
   subst this
   rw [h1]at hx
   simp at hx;subst hx;exact hy
theorem ada(b o i:Nat):(⟨b,o,none⟩:Addr).add i=⟨b,o + i,none⟩:=by
 unfold Addr.add
 split
 ·rename_i h;subst h;rfl
 ·rfl
end
theorem alA{x:Int}(h:(Lit.int .u8 x).wf=true):0≤x∧x≤255:=by
 have h:(decide (IntKind.u8.min≤x)&&decide (x≤IntKind.u8.max))=true:=h
 simp only [q9,decide_eq_true_eq]at h
 exact h
def aez(w:World)(vs:List Value):Nm:=⟨fun i=>(vs[i]?).getD .nilFunc,fun b=>w.heap[b]?,fun _=> []⟩
theorem aeA{w:World}{vs:List Value}{i:Nat}{v:Value}(h:vs[i]? =some v)(hs:HX v=v):aez w vs i=v:=by
 simp only [Nm.of,aez,h,Option.getD_some,hs]
theorem HpL.args{w:World}{es:List Entry}{vs:List Value}(hg:GlOk fun b=>w.heap[b]?)(h: ∀ (i:Nat) (e:Entry),es[i]? =some e→ ∃ T t xs v,e= .row false T t xs∧vs[i]? =some v∧GO (fun b=>w.heap[b]?) t v xs):
  HpL w (fun b=>w.heap[b]?) es (aez w vs) w:=by
 refine⟨fun i e he=> ?_,fun i j e e' b he he' hb hb'=> ?_,rfl,rfl,rfl,Nat.le_refl _,fun b o hb=>hb,fun b o hb=>hb,hg⟩
 ·obtain⟨T,t,xs,v,rfl,hv,hr⟩:=h i e he
  refine⟨?_,?_,trivial⟩
  ·simp only [Entry.holds]
   rw [aeA hv (OV hr)]
   exact hr
  ·have:=(List.getElem?_eq_some_iff.1 he).1
   simp only [Nat.blt,Nat.ble_eq];omega
 ·obtain⟨T,t,xs,v,rfl,_⟩:=h i e he
  cases hb
theorem PF.law{P:Program}(p:PF P){w:World}{args:List SV}{es:List Entry}{vs:List Value}{o:Out}{res:SV}{av:Array Value}(hg:GlOk fun b=>w.heap[b]?)(hF:p.F args es=some o)(hres:o.res=res)(dq: ∀ b∈o.nd,b=true)
  (h: ∀ (i:Nat) (e:Entry),es[i]? =some e→ ∃ T t xs v,e= .row false T t xs∧vs[i]? =some v∧GO (fun b=>w.heap[b]?) t v xs) {b:Bool} (hb:res=one (.val (.bool b))) (hav:(args.map (SV.conc (aez w vs))).toArray=av):
  Calls P p.k av w fun e w'=>e= .returned (.bool b)∧Below w.heap.size w w':=by
 subst hav
 refine(p.ok args es o hF dq (fun b=>w.heap[b]?) (aez w vs) w (HpL.args hg h)).mono fun e w' ⟨ρ',hx,he,_,_,hh⟩=> ?_
 rw [hres,hb]at he
 refine⟨he,hh.hf.os,hh.hf.tape,hh.hf.output,hh.hf.size,fun k hk=> ?_⟩
 rw [Array.getElem?_eq_getElem hk]
 exact hh.hf.mem k _ (Array.getElem?_eq_getElem hk)
end Go.SX
namespace Go.SX
open Go.RowKit
section
variable{H:Type}{enc:TypeId×Value→H}{P:Program}{w:World}{base:Nat}{held:Bool}
def wfD:(t:CTy)→E t→Prop
 | .int k,(x:Int)=>(Lit.int k x).wf=true
 | .str,(s:ByteArray)=>s.size≤maxLen
 | .pair a b,(p:E a×E b)=>wfD a p.1∧wfD b p.2
 | .sl _ t,(xs:List (E t))=>xs.length≤maxLen∧ ∀ x∈xs,wfD t x
 | .bool,_=>True
 | .fn,_=>True
def Za(P:Program):Nat→List Field→Nat→Bool
 |off,[],e=>Nat.beq off e
 |off,f::r,e=>Nat.beq f.offset off&&Za P (off + P.cellsOf f.type) r e
def Yq(P:Program):Nat→TypeId→CTy→Bool
 |0,_,_=>false
 |n + 1,T,t=>match P.underlying T with
  |some (.int k)=>match t with | .int k'=>decide (k=k') | _=>false
  |some .bool=>match t with | .bool=>true | _=>false
  |some .string=>match t with | .str=>true | _=>false
  |some (.slice e)=>match t with | .sl e' u=>Nat.beq e e'&&Yq P n e u&&Nat.beq (P.cellsOf e) u.size | _=>false
  |some (.struct fs)=>okFs P n fs.toList t&&Za P 0 fs.toList (P.cellsOf T)
  |_=>false
 where
 okFs (P:Program):Nat→List Field→CTy→Bool
 |_,[],_=>false
 |0,_,_=>false
 |n + 1,[f],t=>Yq P n f.type t&&Nat.beq (P.cellsOf f.type) t.size
 |n + 1,f::r,.pair a b=>Yq P n f.type a&&Nat.beq (P.cellsOf f.type) a.size&&okFs P n r b
 |_,_::_,_=>false
theorem ac9(a:Addr):a.add 0=a:=by unfold Addr.add;simp
theorem afV{a:Addr}{v:Value}(h:w.cell? a=some v):a.spot=none∧ ∃ arr U fz,w.heap[a.block]? =some (.cells arr U fz):=by
 unfold World.cell? at h
 split at h
 ·rename_i c el fz hb
  split at h
  ·cases h
  ·rename_i hs
   exact⟨by simpa using hs,_,_,_,hb⟩
 ·cases h
theorem afn: ∀ (n:Nat),
  (∀ (T:TypeId) (t:CTy) (fuel:Nat) (cs:List Value) (y:DataW H×List MemPlace),Yq P n T t=true→DataW.trod enc P w base (fun _=>true) held fuel T cs=some y→ ∃ x:E t,Rep (fun b=>w.heap[b]?) t cs x∧wfD t x)∧
  (∀ (fs:List Field) (t:CTy) (off:Nat) (cs:List Value),Yq.okFs P n fs t=true→Za P off fs cs.length=true→(∀ f∈fs,∃ m y,DataW.trod enc P w base (fun _=>true) held m f.type ((cs.drop f.offset).take (P.cellsOf f.type))=some y)→
   ∃ x:E t,Rep (fun b=>w.heap[b]?) t (cs.drop off) x∧wfD t x)
 |0=>⟨fun T t fuel cs y h=>by simp [Yq]at h,fun fs t off cs h=>by cases fs <;> simp [Yq.okFs]at h⟩
 |n + 1=>by
  obtain⟨ih1,ih2⟩:=afn n
  refine⟨fun T t fuel cs y hk ht=> ?_,fun fs t off cs hk hfl hm=> ?_⟩
  ·cases fuel with
   |zero=>simp [DataW.trod]at ht
   |succ fuel=>
   have ht0:=ht
   unfold Yq at hk
   cases hu:P.underlying T with
   |none=>rw [hu]at hk;cases hk
   |some d=>
    rw [hu]at hk
    simp only [DataW.trod,hu]at ht
    cases d <;> simp only at hk <;> try (cases hk;done)
    case bool=>
     cases t <;> simp only at hk <;> try (cases hk;done)
     split at ht <;> simp_all
     exact⟨_,by simp only [Rep];rfl,trivial⟩
    case int k=>
     cases t <;> simp only at hk <;> try (cases hk;done)
     rename_i k'
     obtain rfl:=of_decide_eq_true hk
     split at ht <;> simp_all
     rename_i k' x _
     obtain⟨⟨rfl,h2⟩,_⟩:=ht
     refine⟨x,by simp only [Rep];simp_all,?_⟩
     simp only [wfD]
     simp_all
    case string=>
     cases t <;> simp only at hk <;> try (cases hk;done)
     split at ht <;> simp_all
     exact⟨_,by simp only [Rep],ht.1⟩
    case slice e=>
     cases t <;> simp only at hk <;> try (cases hk;done)
     rename_i e' u
     simp only [q9]at hk
     obtain⟨⟨he,hku⟩,hz⟩:=hk
     have hz:=q8 hz
     rcases DataW.trod_slice hu ht0 with⟨h1,_⟩ | ⟨a,len,cap,elems,rest,m,_,h1,_,_,h3,h4,h5,h6,h7,_⟩
     ·subst h1
      exact⟨[],by simp only [Rep];exact⟨_,rfl,.inl ⟨.inl rfl,rfl⟩⟩,Nat.zero_le _,fun x hx=>by cases hx⟩
     ·subst h1
      obtain⟨h8,h9⟩:=h7 rfl
      by_cases hc:cap=0
      ·subst hc
       have:len=0:=by omega
       subst this
       exact⟨[],by simp only [Rep];exact⟨_,rfl,.inl ⟨.inr ⟨a,rfl⟩,rfl⟩⟩,Nat.zero_le _,fun x hx=>by cases hx⟩
      ·have hb:a.spot=none∧ ∃ arr U fz,w.heap[a.block]? =some (.cells arr U fz):=by
        have hex: ∃ y,(w.cells? base (a.add (0 * P.cellsOf e)) (P.cellsOf e)).bind (DataW.trod enc P w base (fun _=>true) held m e)=some y:=by
         by_cases hl:len=0
         ·subst hl
          have:=h9 0 (by omega)
          have gm:0 < rest.length:=by omega
          rw [List.getElem?_eq_getElem gm]at this
          exact⟨_,by simpa using this⟩
         ·have:=h6 0 (by omega)
          have gm:0 < elems.length:=by omega
          rw [List.getElem?_eq_getElem gm]at this
          exact⟨_,this⟩
        obtain⟨y0,hy0⟩:=hex
        obtain⟨cs0,hc0,_⟩:=Option.bind_eq_some_iff.1 hy0
        obtain⟨_,hlen0,hcell0⟩:=World.cells?_some hc0
        have hpos:0 < P.cellsOf e:=by rw [hz];exact uW u
        have:=hcell0 0 hpos
        rw [Nat.zero_mul,ac9,ac9,List.getElem?_eq_getElem (by omega)]at this
        exact afV this
       obtain⟨hspot,arr,U,fz,hb⟩:=hb
       obtain⟨bl,off,spot⟩:=a
       simp only at hspot hb
       subst hspot
       have key: ∀ i,i < len→ ∃ x:E u,Rep (fun b=>w.heap[b]?) u ((arr.toList.drop (off + i * u.size)).take u.size) x∧wfD u x:=by
        intro i hi
        have hq:=h6 i hi
        have gm:i < elems.length:=by omega
        rw [List.getElem?_eq_getElem gm]at hq
        obtain⟨cs,hc,hr⟩:=Option.bind_eq_some_iff.1 hq
        obtain⟨_,jw,hcell⟩:=World.cells?_some hc
        have Jr:cs=(arr.toList.drop (off + i * u.size)).take u.size:=by
         refine List.ext_getElem? fun j=> ?_
         by_cases hj:j < u.size
         ·rw [← hcell j (by rw [hz];exact hj),List.getElem?_take_of_lt hj,List.getElem?_drop]
          rw [ada,ada]
          simp only [World.cell?,hb,hz]
          simp
         ·rw [List.getElem?_eq_none (by omega),List.getElem?_eq_none]
          rw [List.length_take];omega
        rw [← Jr]
        exact ih1 e u m cs _ hku hr
       obtain⟨xs,hl,hx⟩:=ajy len _ key
       refine⟨xs,?_,by omega,fun x hm=> ?_⟩
       ·simp only [Rep]
        exact⟨_,rfl,.inr ⟨bl,off,cap,arr,U,fz,by rw [hl],by omega,h4,hb,fun i x hi=>(hx i x hi).1⟩⟩
       ·obtain⟨i,hi⟩:=List.getElem?_of_mem hm
        exact(hx i x hi).2
    case struct fs=>
     simp only [q9]at hk
     obtain⟨xs,m,_,_,jw,hxl,hfs⟩:=DataW.trod_struct hu ht0
     have:=ih2 fs.toList t 0 cs hk.1 (by rw [jw];exact hk.2) fun f hf=>by
      obtain⟨q,hq⟩:=List.getElem?_of_mem hf
      have hq':fs[q]? =some f:=by simpa using hq
      have gm:q < xs.length:=by rw [hxl];exact(Array.getElem?_eq_some_iff.1 hq').1
      exact⟨m,xs[q],by rw [hfs q f hq',List.getElem?_eq_getElem gm]⟩
     simpa using this
  ·match fs,t,hk with
   | [f],t,hk=>
    simp only [Yq.okFs,q9]at hk
    simp only [Za,q9]at hfl
    have ho:=q8 hfl.1
    have he:=q8 hfl.2
    obtain⟨m,y,hy⟩:=hm f (by simp)
    obtain⟨x,hx⟩:=ih1 f.type t m _ y hk.1 hy
    rw [ho,List.take_of_length_le (by rw [List.length_drop];omega)]at hx
    exact⟨x,hx⟩
   |f::g::r,.pair a b,hk=>
    simp only [Yq.okFs,q9]at hk
    obtain⟨⟨k1,k2⟩,k3⟩:=hk
    have k2:=q8 k2
    rw [Za,q9]at hfl
    have ho:=q8 hfl.1
    obtain⟨m,y,hy⟩:=hm f (by simp)
    obtain⟨x,hx1,hx2⟩:=ih1 f.type a m _ y k1 hy
    obtain⟨z,hz1,hz2⟩:=ih2 (g::r) b (off + P.cellsOf f.type) cs k3 hfl.2 fun f' hf'=>hm f' (List.mem_cons_of_mem _ hf')
    refine⟨(x,z),?_,hx2,hz2⟩
    simp only [Rep]
    rw [ho]at hx1
    exact⟨_,_,by rw [← List.drop_drop,List.take_append_drop],hx1,hz1⟩
   |f::g::r,.int _,hk=>simp [Yq.okFs]at hk
   |f::g::r,.bool,hk=>simp [Yq.okFs]at hk
   |f::g::r,.str,hk=>simp [Yq.okFs]at hk
   |f::g::r,.sl _ _,hk=>simp [Yq.okFs]at hk
theorem ajI{r:Reach}{b0:Nat}{T e:TypeId}{v:Value}{d:DataW H}{p:List MemPlace}{u:CTy}(hs:P.underlying T=some (.slice e))(hv:Value.okWide P w r b0 T v)
  (h:DataW.Trod enc P w base (fun _=>true) held T v d p) {n:Nat} (hk:Yq P n T (.sl e u)=true): ∃ xs:List (E u),GO (fun b=>w.heap[b]?) u v xs∧xs.length≤maxLen∧ ∀ x∈xs,wfD u x:=by
 obtain⟨a0,len0,cap0,rfl⟩:=WideShapes.okWide_slice hs hv
 obtain⟨fuel,hf⟩:=h
 obtain⟨x,h1,h2⟩:=(afn n).1 T (.sl e u) fuel _ _ hk (by simpa [Value.cells] using hf)
 simp only [Rep,List.cons.injEq,and_true]at h1
 obtain⟨v',rfl,h1⟩:=h1
 exact⟨x,h1,h2.1,h2.2⟩
end
end Go.SX
