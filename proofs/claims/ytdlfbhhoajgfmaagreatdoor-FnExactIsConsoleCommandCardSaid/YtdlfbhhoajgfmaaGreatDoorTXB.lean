import Derived.Test.YtdlfbhhoajgfmaaGreatDoorTXC
import Derived.Deep.LoopGhost
set_option linter.unusedSimpArgs false
set_option linter.unusedVariables false
open Nat renaming eq_of_beq_eq_true → q8
open Option renaming map_eq_some_iff → q9
open Option.some renaming injEq → w3
open Bool renaming and_eq_true → w4
open List renaming length_append → w5
open List renaming mem_append_right → w6
open List renaming mem_append → w7
open List renaming map_cons → w8
open List renaming length_cons → w9
open List renaming getElem?_eq_some_iff → zQ
open Nat renaming le_of_ble_eq_true → zW
namespace Go.SX
open Go.RowKit
structure Dl where
 dst:Option Nat
 v:SS
 es:List (Nat×Entry)
 new:List Nat
 ids:List Nat
 nd:List Bool
def St.apply(s:St)(d:Dl):St:=
 {look:=match d.dst with | none=>s.look | some k=>fun i=>bif Nat.beq i k then some d.v else s.look i
  ent:=ae s.ent d.es
  used:=ag s.used d.new
  wr:=match d.dst with | none=>s.wr | some k=>fun i=>bif Nat.beq i k then true else s.wr i
  next:=s.next
  log:=s.log
  logE:=s.logE }
def sG(ops:List Oper)(o:Oper):Option (Option (Nat×Bool)):=
 match o.guard with
 |none=>some none
 |some (j,b)=>match ops[j]? with
  |some q=>match q.dst with
   |some k=>some (some (k,b))
   |none=>none
  |none=>none
def ng(W:Nat→Bool)(s:St):Option Nat→Bool
 |none=>true
 |some k=>W k&& !s.wr k
def kb(s:St):Option (Nat×Bool)→Bool
 |none=>true
 |some p=>s.wr p.1
def oK(s:St):Nat→Option (Nat×Bool)→Bool
 |_,none=>true
 |0,some _=>true
 |f + 1,some p=>match s.look p.1 with
  |some ⟨g,.one ⟨false,[.val (.bool c)]⟩⟩=>(match p.2 with | true=>c | false=> !c)&&oK s f g
  |_=>true
def qM(s:St):Nat→Option (Nat×Bool)→Option Bool
 |_,none=>some true
 |0,some _=>none
 |f + 1,some p=>match s.look p.1 with
  |some ⟨g,.one ⟨false,[.val (.bool c)]⟩⟩=>match qM s f g with
   |some c'=>some ((match p.2 with | true=>c | false=> !c)&&c')
   |none=>none
  |_=>none
def mU(s:St)(g:Option (Nat×Bool)):List Bool→List Bool
 | []=> []
 |l=>match g with
  |none=>l
  |some p=>l.map fun n=> !(oK s 32 (some p))||n
def fk(c:Bool)(e:Entry)(old:Option Entry):Option Entry:=
 match e,old with
 | .row own e t xs,none=>some (.row own e t (cond c xs []))
 | .row own e t xs,some (.row own' e' t' xs')=>if h:t'=t then bif(own==own')&&Nat.beq e e' then some (.row own e t (cond c xs (h ▸ xs')))else none else none
 | .box T cs,some (.box T' cs')=>bif Nat.beq T T' then(aQ c cs cs').map (.box T)else none
 | .tree e t xs none,none=>some (.tree e t (cond c xs []) none)
 | .tree e t xs none,some (.tree e' t' xs' none)=>if h:t'=t then bif Nat.beq e e' then some (.tree e t (cond c xs (h ▸ xs')) none)else none else none
 | .wk e t xs,some (.wk e' t' xs')=>if h:t'=t then bif Nat.beq e e' then some (.wk e t (cond c xs (h ▸ xs')))else none else none
 | .gone,some .gone=>some .gone
 | .gone,none=>some .gone
 |_,_=>none
def rQ(c:Bool)(e:Entry)(old:Option Entry):Option Entry:=
 match fk c e old with
 |some e'=>some e'
 |none=>match e,old with
  | .gone,some _=>some .gone
  |_,_=>none
theorem ka{c:Bool}{e e2:Entry}{old:Option Entry}(h:rQ c e old=some e2):fk c e old=some e2∨(e= .gone∧e2= .gone∧ ∃ o,old=some o):=by
 unfold rQ at h
 split at h
 ·rename_i h1;rw [h1];exact .inl h
 ·split at h
  ·cases h;exact .inr ⟨rfl,rfl,_,rfl⟩
  ·cases h
def gN(c:Bool)(ent:Nat→Option Entry):List (Nat×Entry)→Option (List (Nat×Entry))
 | []=>some []
 |p::r=>match rQ c p.2 (ent p.1),gN c ent r with
  |some e,some es=>some ((p.1,e)::es)
  |_,_=>none
def rsF{α:Type}(f:Nat→Option α)(l:List Nat):Nat→Option α:=fun i=>bif memN l i then f i else none
theorem nE{α:Type}{f:Nat→Option α}{l:List Nat}: ∀ i x,rsF f l i=some x→f i=some x:=by
 intro i x h
 unfold rsF at h
 cases hm:memN l i with
 |true=>simpa [hm] using h
 |false=>simp [hm]at h
def gL:List Operand→List Nat
 | []=> []
 | .tmp t::r=>t::gL r
 |_::r=>gL r
def gy(look:Nat→Option SS)(A:List (Nat×Bool)):List Operand→List Nat
 | []=> []
 |x::r=>(match ev look A x with | some v=>v.ids | none=> [])++gy look A r
def gt(look:Nat→Option SS)(ent:Nat→Option Entry)(A:List (Nat×Bool))(o:Oper):List Nat:=
 match o.op with
 | .load _ _=>gy look A (fC o.op)
 | .store _ _ _=>gy look A (fC o.op)
 | .indexAddr _ _ _=>gy look A (fC o.op)
 | .slice _ _ _ _ _=>gy look A (fC o.op)
 | .buildSlice _ _ _=>gy look A (fC o.op)
 | .binOp _ _ _ _ _=>gy look A (fC o.op)
 | .convert _ _ _=>gy look A (fC o.op)
 | .call c=>match c.callee with
  | .builtin _=>gy look A (fC o.op)
  |_=>gX ent 4 (mi [] (gy look A (fC o.op)))
 |_=> []
def opR(P:Program)(tbl:List (PF P))(look:Nat→Option SS)(ent:Nat→Option Entry)(A:List (Nat×Bool))(nid:Nat)(o:Oper):Option Raw:=opV P tbl (rsF look (gL (fC o.op))) (rsF ent (gt look ent A o)) A nid o
def Cell.inUb(U:Nat→Bool)(c:Cell):Bool:=c.ids.all U
def V1.inUb(U:Nat→Bool)(v:V1):Bool:=v.cs.all (Cell.inUb U)
def SV.inUb(U:Nat→Bool):SV→Bool
 | .one v=>v.inUb U
 | .tup vs=>vs.all (V1.inUb U)
theorem Cell.inUb_sound{U:Nat→Bool}{c:Cell}(h:c.inUb U=true):c.inU U:=by
 unfold Cell.inUb at h
 rw [List.all_eq_true]at h
 cases c with
 |val v=>trivial
 |ptr id off=>exact h id (by simp [Cell.ids])
 |ref id=>exact h id (by simp [Cell.ids])
 |el id z i off=>exact h id (by simp [Cell.ids])
 |vw id z k=>exact h id (by simp [Cell.ids])
 |clo f caps=>exact fun id aR=>h id aR
 |bnd f vs=>exact fun id aR=>h id aR
theorem V1.inUb_sound{U:Nat→Bool}{v:V1}(h:v.inUb U=true):v.inU U:=by
 unfold V1.inUb at h
 rw [List.all_eq_true]at h
 exact fun c hc=>Cell.inUb_sound (h c hc)
theorem SV.inUb_sound{U:Nat→Bool}{v:SV}(h:v.inUb U=true):v.inU U:=by
 cases v with
 |one v=>exact V1.inUb_sound h
 |tup vs=>
  simp only [SV.inUb,List.all_eq_true]at h
  exact fun v hv=>V1.inUb_sound (h v hv)
def sC(U:Nat→Bool)(es:List (Nat×Entry)):Bool:=es.all fun p=>match p.2 with
 | .box _ cs=>cs.all (Cell.inUb U)
 | .tree _ _ _ (some (_,cs))=>cs.all (Cell.inUb U)
 |_=>true
def jj(look:Nat→Option SS):List Nat→List Nat
 | []=> []
 |t::r=>(match look t with | some x=>x.v.ids | none=> [])++jj look r
def qR(look:Nat→Option SS)(ent:Nat→Option Entry)(ids:List Nat)(o:Oper)(new:List Nat):List Nat:=jj look (gL (fC o.op))++(bA (ids.map (la ent))++new)
def pT(s:St)(o:Oper)(g:Option (Nat×Bool))(ids:List Nat)(r:Raw):Option Dl:=
 match g with
 |none=>some ⟨o.dst,⟨none,r.v⟩,r.es,r.new,ids++(bH r.es++r.new),r.nd⟩
 |some p=>match r.es,r.new with
  | [],[]=>some ⟨o.dst,⟨some p,r.v⟩,[],[],ids,mU s (some p) r.nd⟩
  |es,new=>match qM s 32 (some p)with
   |some c=>match gN c s.ent es with
    |some es'=>if (sC (memN (qR s.look s.ent ids o new)) es&&(bH es).all (fun i=>(s.ent i).isSome||memN new i))=true then some ⟨o.dst,⟨some p,r.v⟩,es',new,ids++(bH es++new),mU s (some p) r.nd⟩else none
    |none=>none
   |none=>none
def opD(P:Program)(tbl:List (PF P))(W:Nat→Bool)(ops:List Oper)(s:St)(i:Nat)(o:Oper):Option Dl:=
 match sG ops o with
 |none=>none
 |some g=>
  bif ng W s o.dst&&kb s g then
   match opR P tbl s.look s.ent (asm s 32 g) ((s.next + i) * 64) o with
   |none=>none
   |some r=>bif r.new.all (fun i=> !s.used i)&&r.v.inUb (memN (qR s.look s.ent (gt s.look s.ent (asm s 32 g) o) o r.new))then pT s o g (gt s.look s.ent (asm s 32 g) o) r else none
  else none
section
variable{P:Program}{tbl:List (PF P)}{s:St}{i:Nat}{ops:List Oper}{o:Oper}{d:Dl}{B:Base}{ρ:Nm}{a:Act}{w:World}{K:Act→World→Prop}{Q:Exit→Act→World→Prop}
theorem wZ{a:Act}{k:Option Nat}{v:Value}:(a.put k v).tmps.size=a.tmps.size:=by cases k <;> simp [Act.put]
theorem Mdl.step{ρ':Nm}{w':World}{u:Value}(hM:Mdl B ρ s a w)(dH: ∀ id,s.used id=true→ρ' id=ρ id)(hdst:ng B.W s d.dst=true)(hg:kb s d.v.g=true)
  (hu:u=(match d.v.g with | none=>d.v.v.conc ρ' | some (j,b)=>if yl a.tmps j=some b then d.v.v.conc ρ' else undef)) (ei:d.v.v.inU (ag s.used d.new)) (hp:Hp B ρ' (ae s.ent d.es) (ag s.used d.new) w'):
  Mdl B ρ' (s.apply d) (a.put d.dst u) w':=by
 have hmono: ∀ id,s.used id=true→ag s.used d.new id=true:=by
  intro id h;simp only [ag];cases memN d.new id <;> simp [h]
 obtain⟨dst,⟨g,v⟩,es,new,ids,nd⟩:=d
 cases dst with
 |none=>
  exact⟨hM.hd,hM.hn,fun k x hk=>(by show a.tmps[k]? =some (SS.at ρ' a.tmps x);rw [hM.hs k x hk,SS.at_congr dH (hM.hu k x hk) fun _ _ _=>rfl]),hM.hg,fun k x hk=>SV.inU_mono hmono (hM.hu k x hk),hp,hM.hl⟩
 |some k=>
  simp only [ng,w4,Bool.not_eq_true']at hdst
  obtain⟨bI,hwr⟩:=hdst
  obtain⟨bI,hsl⟩:=B.hW k bI
  have hyl: ∀ j,s.wr j=true→yl (a.put (some k) u).tmps j=yl a.tmps j:=fun j hj=>xh fun e=>by subst e;rw [hwr]at hj;cases hj
  refine⟨hM.hd,by rw [wZ];exact hM.hn,fun i x hi=> ?_,fun i x j b hi hj=> ?_,fun i x hi=> ?_,hp,fun k' v hv=> ?_⟩
  ·simp only [St.apply]at hi
   cases hb:Nat.beq i k with
   |true=>
    have:=q8 hb;subst this
    simp at hi;subst hi
    have eb:i < a.tmps.size:=by rw [hM.hn];exact bI
    have hput:(a.put (some i) u).tmps[i]? =some u:=by simp only [Act.put,Array.getElem?_setIfInBounds_self_of_lt eb]
    show (a.put (some i) u).tmps[i]? =_
    rw [hput]
    refine congrArg some ?_
    cases g with
    |none=>exact hu
    |some p=>
     obtain⟨j,b⟩:=p
     have hj:s.wr j=true:=hg
     have:=hyl j hj
     refine hu.trans ?_
     show _=SS.at ρ' (a.put (some i) u).tmps _
     simp only [SS.at,this]
   |false=>
    simp [hb]at hi
    have ij:k≠i:=fun e=>by subst e;simp at hb
    have:(a.put (some k) u).tmps[i]? =a.tmps[i]? :=by simp only [Act.put,Array.getElem?_setIfInBounds_ne ij]
    rw [this,hM.hs i x hi]
    congr 1
    exact(SS.at_congr dH (hM.hu i x hi) fun j b hj=>hyl j (hM.hg i x j b hi hj)).symm
  ·simp only [St.apply]at hi ⊢
   cases hb:Nat.beq i k with
   |true=>
    simp [hb]at hi;subst hi
    simp only at hj;subst hj
    have hj:s.wr j=true:=hg
    cases Nat.beq j k <;> simp [hj]
   |false=>
    simp [hb]at hi
    have:=hM.hg i x j b hi hj
    cases Nat.beq j k <;> simp [this]
  ·simp only [St.apply]at hi ⊢
   cases hb:Nat.beq i k with
   |true=>simp [hb]at hi;subst hi;exact ei
   |false=>simp [hb]at hi;exact SV.inU_mono hmono (hM.hu i x hi)
  ·have ij:k≠k':=fun e=>by subst e;rw [hsl]at hv;cases hv
   have:(a.put (some k) u).tmps[k']? =a.tmps[k']? :=by simp only [Act.put,Array.getElem?_setIfInBounds_ne ij]
   rw [this];exact hM.hl k' v hv
theorem vE{g:Option (Nat×Bool)}(h:sG ops o=some g)(tmps:Array Value):
  Region.wanted o (yielded ops.toArray tmps)=(match g with | none=>true | some p=>yl tmps p.1==some p.2):=by
 unfold sG at h
 unfold Region.wanted
 cases hg:o.guard with
 |none=>simp [hg]at h;subst h;rfl
 |some q=>
  obtain⟨j,b⟩:=q
  simp only [hg]at h
  split at h
  ·rename_i q hq
   split at h
   ·rename_i k hk
    cases h
    simp only [yielded,List.getElem?_toArray,hq,Option.bind_some,hk,yl]
    rfl
   ·cases h
  ·cases h
theorem lc(hM:Mdl B ρ s a w): ∀ (f:Nat) (g:Option (Nat×Bool)),(∀ p,g=some p→yl a.tmps p.1=some p.2)→oK s f g=true
 |0,none,_=>rfl
 |_ + 1,none,_=>rfl
 |0,some p,_=>rfl
 |f + 1,some p,h=>by
  simp only [oK]
  split
  ·rename_i g c hx
   have hs:=hM.hs _ _ hx
   have hy:=h p rfl
   simp only [yl,hs]at hy
   cases g with
   |none=>
    simp only [SS.at,SV.conc,V1.conc,Cell.conc,w3]at hy
    subst hy
    have:=lc hM f none (by simp)
    rw [this];cases p.2 <;> rfl
   |some q=>
    obtain⟨j,b⟩:=q
    by_cases hq:yl a.tmps j=some b
    ·simp only [SS.at,hq,if_true,SV.conc,V1.conc,Cell.conc,w3]at hy
     subst hy
     have:=lc hM f (some (j,b)) (fun r hr=>by cases hr;exact hq)
     rw [this];cases p.2 <;> rfl
    ·simp only [SS.at,hq,if_false,undef]at hy
     cases hy
  ·rfl
theorem mL(hM:Mdl B ρ s a w): ∀ (f:Nat) (g:Option (Nat×Bool)) (c:Bool),qM s f g=some c→((∀ p,g=some p→yl a.tmps p.1=some p.2)↔c=true)
 |0,none,c,h=>by simp [qM]at h;subst h;simp
 |_ + 1,none,c,h=>by simp [qM]at h;subst h;simp
 |0,some p,c,h=>by simp [qM]at h
 |f + 1,some p,c,h=>by
  simp only [qM]at h
  split at h
  ·rename_i g b hx
   split at h
   ·rename_i c' hc'
    cases h
    have hs:=hM.hs _ _ hx
    have ih:=mL hM f g c' hc'
    have hy:yl a.tmps p.1=some b∧c'=true∨yl a.tmps p.1=none∧c'=false:=by
     simp only [yl,hs]
     cases g with
     |none=>
      have:c'=true:=ih.1 (by simp)
      subst this;simp [SS.at,SV.conc,V1.conc,Cell.conc]
     |some q=>
      obtain⟨j,b'⟩:=q
      by_cases hq:yl a.tmps j=some b'
      ·have:c'=true:=ih.1 (fun p hp=>by cases hp;exact hq)
       subst this;simp [SS.at,hq,SV.conc,V1.conc,Cell.conc]
      ·have:c'=false:=by
        cases c' with
        |false=>rfl
        |true=>exact(hq (ih.2 rfl _ rfl)).elim
       subst this;simp [SS.at,hq,undef]
    simp only [w3,forall_eq']
    rcases hy with⟨hy,rfl⟩ | ⟨hy,rfl⟩
    ·rw [hy];cases p.2 <;> cases b <;> simp
    ·rw [hy];simp
   ·cases h
  ·cases h
theorem sh(hM:Mdl B ρ s a w){p:Nat×Bool}(hp:yl a.tmps p.1=some p.2){l:List Bool}(h: ∀ b∈mU s (some p) l,b=true): ∀ b∈l,b=true:=by
 have hg:=lc hM 32 (some p) (fun q hq=>by cases hq;exact hp)
 cases l with
 |nil=>simp
 |cons x r=>
  intro b hb
  have:=h (!(oK s 32 (some p))||b) (by simp only [mU];exact List.mem_map_of_mem hb)
  simpa [hg] using this
end
end Go.SX
namespace Go.SX
open Go.RowKit
section
variable{P:Program}{tbl:List (PF P)}{s:St}{i:Nat}{ops:List Oper}{o:Oper}{d:Dl}{B:Base}{ρ:Nm}{a:Act}{w:World}{K:Act→World→Prop}{Q:Exit→Act→World→Prop}
theorem Hp.swap{ent1 ent2:Nat→Option Entry}{used:Nat→Bool}(h:Hp B ρ ent1 used w)
  (hs: ∀ id e2,ent2 id=some e2→ ∃ e1,ent1 id=some e1∧e2.holds B ρ w id∧e2.ob ρ id=e1.ob ρ id∧e2.inU used):Hp B ρ ent2 used w:=by
 refine⟨fun id e he=> ?_,fun id id' e e' b he he' hb hb'=> ?_,h.hf⟩
 ·obtain⟨e1,h1,h2,_,h4⟩:=hs id e he
  exact⟨h2,(h.he id e1 h1).2.1,h4⟩
 ·obtain⟨e1,h1,_,h3,_⟩:=hs id e he
  obtain⟨e1',h1',_,h3',_⟩:=hs id' e' he'
  rw [h3]at hb;rw [h3']at hb'
  exact h.hi id id' e1 e1' b h1 h1' hb hb'
theorem Hp.lessG{ent1 ent2:Nat→Option Entry}{used:Nat→Bool}(h:Hp B ρ ent1 used w)
  (hs: ∀ id e2,ent2 id=some e2→ ∃ e1,ent1 id=some e1∧e2.holds B ρ w id∧(∀ b∈e2.ob ρ id,b∈e1.ob ρ id)∧e2.inU used):Hp B ρ ent2 used w:=by
 refine⟨fun id e he=> ?_,fun id id' e e' b he he' hb hb'=> ?_,h.hf⟩
 ·obtain⟨e1,h1,h2,_,h4⟩:=hs id e he
  exact⟨h2,(h.he id e1 h1).2.1,h4⟩
 ·obtain⟨e1,h1,_,h3,_⟩:=hs id e he
  obtain⟨e1',h1',_,h3',_⟩:=hs id' e' he'
  exact h.hi id id' e1 e1' b h1 h1' (h3 b hb) (h3' b hb')
theorem look?_guardEs{c:Bool}{ent:Nat→Option Entry}: ∀ {es es':List (Nat×Entry)},gN c ent es=some es'→
  bH es'=bH es∧ ∀ i e2,look? es' i=some e2→ ∃ e,look? es i=some e∧rQ c e (ent i)=some e2
 | [],es',h=>by simp [gN]at h;subst h;exact⟨rfl,fun i e2 he=>by simp [look?]at he⟩
 |p::r,es',h=>by
  simp only [gN]at h
  split at h
  ·rename_i e es h1 h2
   cases h
   obtain⟨k1,k2⟩:=look?_guardEs h2
   refine⟨by simp only [bH,w8]at k1 ⊢;rw [k1],fun i e2 he=> ?_⟩
   simp only [look?]at he ⊢
   cases hb:Nat.beq p.1 i with
   |true=>
    have:=q8 hb;subst this
    simp at he;subst he
    exact⟨p.2,by simp,h1⟩
   |false=>simp [hb]at he;simpa using k2 i e2 he
  ·cases h
theorem ld{used:Nat→Bool}{id:Nat}{e e2:Entry}{old:Option Entry}(h:fk true e old=some e2)(hh:e.holds B ρ w id)(ei:e.inU used):e2.holds B ρ w id∧e2.ob ρ id=e.ob ρ id∧e2.inU used:=by
 unfold fk at h
 split at h
 ·cases h;exact⟨hh,rfl,ei⟩
 ·rename_i own e0 t xs own' e' t' xs'
  split at h
  ·rename_i ht
   subst ht
   cases hb:(own==own'&&Nat.beq e0 e')with
   |false=>simp [hb]at h
   |true=>simp only [hb,cond_true]at h;cases h;exact⟨hh,rfl,ei⟩
  ·cases h
 ·rename_i T cs T' cs'
  cases hb:Nat.beq T T' with
  |false=>simp [hb]at h
  |true=>
   simp only [hb,cond_true,q9]at h
   obtain⟨ms,hm,rfl⟩:=h
   obtain⟨b,k1,k2,k3,k4⟩:=hh
   have:=(dc ρ hm).1
   simp only [cond_true]at this
   exact⟨⟨b,k1,by rw [this];exact k2,k3,k4⟩,rfl,gj ei hm⟩
 ·cases h;exact⟨hh,rfl,ei⟩
 ·rename_i e0 t xs e' t' xs'
  split at h
  ·rename_i ht
   subst ht
   cases hb:Nat.beq e0 e' with
   |false=>simp [hb]at h
   |true=>simp only [hb,cond_true]at h;cases h;exact⟨hh,rfl,ei⟩
  ·cases h
 ·rename_i e0 t xs e' t' xs'
  split at h
  ·rename_i ht
   subst ht
   cases hb:Nat.beq e0 e' with
   |false=>simp [hb]at h
   |true=>simp only [hb,cond_true]at h;cases h;exact⟨hh,rfl,ei⟩
  ·cases h
 ·cases h;exact⟨hh,rfl,ei⟩
 ·cases h;exact⟨hh,rfl,ei⟩
 ·cases h
theorem rP{used:Nat→Bool}{id:Nat}{e e2 old:Entry}(h:fk false e (some old)=some e2)(hin0: ∀ T cs,e= .box T cs→ ∀ c∈cs,c.inU used)(hh:old.holds B ρ w id):e2.holds B ρ w id∧e2.ob ρ id=old.ob ρ id∧e2.inU used:=by
 unfold fk at h
 split at h
 ·rename_i hY;cases hY
 ·rename_i own e0 t xs own' e' t' xs' hY
  cases hY
  split at h
  ·rename_i ht
   subst ht
   cases hb:(own==own'&&Nat.beq e0 e')with
   |false=>simp [hb]at h
   |true=>
    simp only [hb,cond_true]at h;cases h
    simp only [w4,beq_iff_eq]at hb
    obtain⟨rfl,h2⟩:=hb
    have:=q8 h2;subst this
    exact⟨hh,rfl,trivial⟩
  ·cases h
 ·rename_i T cs T' cs' hY
  cases hY
  cases hb:Nat.beq T T' with
  |false=>simp [hb]at h
  |true=>
   have:=q8 hb;subst this
   simp only [hb,cond_true,q9]at h
   obtain⟨ms,hm,rfl⟩:=h
   obtain⟨b,k1,k2,k3,k4⟩:=hh
   have:=(dc ρ hm).1
   simp only [cond_false]at this
   exact⟨⟨b,k1,by rw [this];exact k2,k3,k4⟩,rfl,gj (hin0 T cs rfl) hm⟩
 ·rename_i hY;cases hY
 ·rename_i e0 t xs e' t' xs' hY
  cases hY
  split at h
  ·rename_i ht
   subst ht
   cases hb:Nat.beq e0 e' with
   |false=>simp [hb]at h
   |true=>
    simp only [hb,cond_true]at h;cases h
    have:=q8 hb;subst this
    exact⟨hh,rfl,trivial⟩
  ·cases h
 ·rename_i e0 t xs e' t' xs' hY
  cases hY
  split at h
  ·rename_i ht
   subst ht
   cases hb:Nat.beq e0 e' with
   |false=>simp [hb]at h
   |true=>
    simp only [hb,cond_true]at h;cases h
    have:=q8 hb;subst this
    exact⟨hh,rfl,trivial⟩
  ·cases h
 ·rename_i hY;cases hY;cases h;exact⟨trivial,rfl,trivial⟩
 ·rename_i hY;cases hY
 ·cases h
theorem tL{c:Bool}{e e2:Entry}(h:fk c e none=some e2):(∃ own e0 t xs,e2= .row own e0 t (cond c xs []))∨(∃ e0 t xs,e2= .tree e0 t (cond c xs []) none)∨e2= .gone:=by
 unfold fk at h
 split at h
 ·cases h;exact .inl ⟨_,_,_,_,rfl⟩
 ·rename_i hY;cases hY
 ·rename_i hY;cases hY
 ·cases h;exact .inr (.inl ⟨_,_,_,rfl⟩)
 ·rename_i hY;cases hY
 ·rename_i hY;cases hY
 ·rename_i hY;cases hY
 ·cases h;exact .inr (.inr rfl)
 ·cases h
theorem pQ{U:Nat→Bool}: ∀ {es:List (Nat×Entry)} {i:Nat} {e:Entry},sC U es=true→look? es i=some e→e.inU U
 | [],i,e,_,h=>by simp [look?]at h
 |p::r,i,e,hb,h=>by
  simp only [sC,List.all_cons,w4]at hb
  simp only [look?]at h
  cases hq:Nat.beq p.1 i with
  |true=>
   simp [hq]at h;subst h
   cases he:p.2 with
   |box T cs=>
    rw [he]at hb
    have:=hb.1
    simp only [List.all_eq_true]at this
    exact fun c hc=>Cell.inUb_sound (this c hc)
   |tree e t xs ho=>
    cases ho with
    |none=>trivial
    |some q=>
     rw [he]at hb
     have:=hb.1
     simp only [List.all_eq_true]at this
     exact fun c hc=>Cell.inUb_sound (this c hc)
   |_=>trivial
  |false=>simp [hq]at h;exact pQ (es:=r) (by simp only [sC];exact hb.2) h
theorem Hp.idle{ent:Nat→Option Entry}{used:Nat→Bool}(h:Hp B ρ ent used w){es es':List (Nat×Entry)}{new:List Nat}(hg:gN false ent es=some es')(aS: ∀ i∈new,used i=false)
  (hk: ∀ i∈bH es,ent i=none→i∈new) (ei:sC (ag used new) es=true):
  Ext B used ρ (ex ρ new)∧Hp B (ex ρ new) (ae ent es') (ag used new) w:=by
 obtain⟨k1,k2⟩:=look?_guardEs hg
 have fc: ∀ id,used id=true→ex ρ new id=ρ id:=fun id aR=>by
  have:memN new id=false:=by
   cases hm:memN new id with
   |false=>rfl
   |true=>rw [aS id (memN_mem.1 hm)]at aR;cases aR
  simp [Nm.of,ex,this]
 have hnil: ∀ id∈new,ex ρ new id= .slice none 0 0:=fun id aR=>by
  simp [Nm.of,ex,memN_mem.2 aR,eM]
 let esN:=es'.filter fun p=>(ent p.1).isNone
 have hlookN: ∀ i e,look? esN i=some e→look? es' i=some e∧ent i=none:=by
  intro i e he
  have: ∀ l:List (Nat×Entry),look? (l.filter fun p=>(ent p.1).isNone) i=some e→look? l i=some e∧ent i=none:=by
   intro l
   induction l with
   |nil=>intro h;simp [look?]at h
   |cons p r ih=>
    intro h
    simp only [List.filter_cons]at h
    split at h
    ·rename_i hp
     simp only [look?]at h ⊢
     cases hb:Nat.beq p.1 i with
     |true=>
      have:=q8 hb;subst this
      simp at h;subst h
      exact⟨by simp,by simpa using hp⟩
     |false=>simp [hb]at h;simpa using ih h
    ·rename_i hp
     obtain⟨h1,h2⟩:=ih h
     refine⟨?_,h2⟩
     simp only [look?]
     cases hb:Nat.beq p.1 i with
     |true=>
      have:=q8 hb;subst this
      rw [h2]at hp;simp at hp
     |false=>exact h1
  exact this es' he
 have hlookN': ∀ i e,look? es' i=some e→ent i=none→look? esN i=some e:=by
  intro i e he hn
  have: ∀ l:List (Nat×Entry),look? l i=some e→look? (l.filter fun p=>(ent p.1).isNone) i=some e:=by
   intro l
   induction l with
   |nil=>intro h;exact h
   |cons p r ih=>
    intro h
    simp only [look?]at h
    simp only [List.filter_cons]
    cases hb:Nat.beq p.1 i with
    |true=>
     have:=q8 hb;subst this
     simp at h;subst h
     simp [hn,look?]
    |false=>
     simp [hb]at h
     split
     ·simp only [look?,hb];exact ih h
     ·exact ih h
  exact this es' he
 obtain⟨hX,hp⟩:=h.names (ρ':=ex ρ new) (es:=esN) (new:=new) fc rfl (hfp:=fun id aR _=>by
   have:memN new id=false:=by
    cases hm:memN new id with
    |false=>rfl
    |true=>rw [aS id (memN_mem.1 hm)]at aR;cases aR
   simp [ex,this]) fun id e he=>by
  obtain⟨h1,h2⟩:=hlookN id e he
  obtain⟨e0,h3,h4⟩:=k2 id e h1
  rw [h2]at h4
  have aR:id∈new:=hk id (pZ h3) h2
  have hv:=hnil id aR
  have hfp:(ex ρ new).fp id= []:=by simp [ex,memN_mem.2 aR]
  have h4:fk false e0 none=some e:=(ka h4).elim (fun h=>h) fun⟨_,_,_,h⟩=>by cases h
  rcases tL h4 with⟨own,e1,t,xs,rfl⟩ | ⟨e1,t,xs,rfl⟩ | rfl
  rotate_left 2
  ·exact⟨trivial,ct aR,trivial,rfl⟩
  rotate_left
  ·refine⟨?_,ct aR,trivial,by simp [Entry.ob,hv,az,hfp]⟩
   simp only [Entry.holds,hv,hfp,cond_false]
   exact⟨[],[],jF _ _ _,hP.nil _ _ _,rfl,by simp [az],by simp [az]⟩
  refine⟨?_,ct aR,trivial,?_⟩
  ·cases own with
   |false=>simp only [Entry.holds,hv,cond_false];exact .inl ⟨.inl rfl,rfl⟩
   |true=>simp only [Entry.holds,hv,cond_false];exact⟨[],jF _ _ _,aU.nil _ _,by simp [az]⟩
  ·cases own <;> simp [Entry.ob,hv,az]
 refine⟨hX,hp.lessG fun id e2 he=> ?_⟩
 simp only [ae]at he ⊢
 cases hl:look? es' id with
 |none=>
  simp [hl]at he
  have hlN:look? esN id=none:=by
   cases hq:look? esN id with
   |none=>rfl
   |some e=>rw [(hlookN id e hq).1]at hl;cases hl
  refine⟨e2,by simp only [hlN];exact he,?_⟩
  have:=hp.he id e2 (by simp only [ae,hlN];exact he)
  exact⟨this.1,fun _ h=>h,this.2.2⟩
 |some e=>
  simp [hl]at he;subst he
  cases hn:ent id with
  |none=>
   have hlN:=hlookN' id e hl hn
   refine⟨e,by simp only [hlN],?_⟩
   have:=hp.he id e (by simp only [ae,hlN])
   exact⟨this.1,fun _ h=>h,this.2.2⟩
  |some old=>
   have hlN:look? esN id=none:=by
    cases hq:look? esN id with
    |none=>rfl
    |some e=>rw [(hlookN id e hq).2]at hn;cases hn
   obtain⟨e0,h3,h4⟩:=k2 id e hl
   rw [hn]at h4
   have hold:=hp.he id old (by simp only [ae,hlN];exact hn)
   rcases ka h4 with h4 | ⟨_,rfl,_⟩
   rotate_left
   ·exact⟨old,by simp only [hlN],trivial,fun _ h=>(by cases h),trivial⟩
   obtain⟨g1,g2,g3⟩:=rP (used:=ag used new) h4 (fun T cs hb=>by
    have:=pQ ei h3
    rw [hb]at this;exact this) hold.1
   exact⟨old,by simp only [hlN],g1,fun b hb=>by rw [← g2];exact hb,g3⟩
theorem Hp.busy{ent:Nat→Option Entry}{used:Nat→Bool}{es es':List (Nat×Entry)}(h:Hp B ρ (ae ent es) used w)(hg:gN true ent es=some es'):Hp B ρ (ae ent es') used w:=by
 obtain⟨k1,k2⟩:=look?_guardEs hg
 refine h.lessG fun id e2 he=> ?_
 simp only [ae]at he
 cases hl:look? es' id with
 |none=>
  simp [hl]at he
  have hl0:look? es id=none:=by
   by_cases hm:id∈bH es
   ·rw [← k1]at hm
    exfalso
    have: ∀ l:List (Nat×Entry),id∈bH l→look? l id≠none:=by
     intro l
     induction l with
     |nil=>intro h;simp [bH]at h
     |cons p r ih=>
      intro h
      simp only [bH,w8,List.mem_cons]at h
      simp only [look?]
      cases hb:Nat.beq p.1 id with
      |true=>simp
      |false=>
       rcases h with rfl | h
       ·simp at hb
       ·exact ih h
    exact this es' hm hl
   ·cases hq:look? es id with
    |none=>rfl
    |some e=>exact(hm (pZ hq)).elim
  have:=h.he id e2 (by simp only [ae,hl0];exact he)
  exact⟨e2,by simp only [ae,hl0];exact he,this.1,fun _ h=>h,this.2.2⟩
 |some e=>
  simp [hl]at he;subst he
  obtain⟨e0,h3,h4⟩:=k2 id e hl
  have:=h.he id e0 (by simp only [ae,h3])
  rcases ka h4 with h4 | ⟨_,rfl,_⟩
  rotate_left
  ·exact⟨e0,by simp only [ae,h3],trivial,fun _ h=>(by cases h),trivial⟩
  obtain⟨g1,g2,g3⟩:=ld (used:=used) h4 this.1 this.2.2
  exact⟨e0,by simp only [ae,h3],g1,fun b hb=>by rw [← g2];exact hb,g3⟩
theorem ids_inU{U:Nat→Bool}{c:Cell}(h:c.inU U): ∀ i∈c.ids,U i=true:=by
 cases c with
 |val v=>intro i hi;simp [Cell.ids]at hi
 |ptr id off=>intro i hi;simp [Cell.ids]at hi;subst hi;exact h
 |ref id=>intro i hi;simp [Cell.ids]at hi;subst hi;exact h
 |el id z k off=>intro i hi;simp [Cell.ids]at hi;subst hi;exact h
 |vw id z k=>intro i hi;simp [Cell.ids]at hi;subst hi;exact h
 |clo f caps=>exact fun i hi=>h i hi
 |bnd f vs=>exact fun i hi=>h i hi
theorem ip{α:Type}{i:α}: ∀ {l:List (List α)},i∈bA l→ ∃ x∈l,i∈x
 | [],h=>by simp [bA]at h
 |a::l,h=>by
  simp only [bA,w7]at h
  rcases h with h | h
  ·exact⟨a,by simp,h⟩
  ·obtain⟨x,h1,h2⟩:=ip h;exact⟨x,by simp [h1],h2⟩
theorem V1.ids_inU{U:Nat→Bool}{v:V1}(h:v.inU U): ∀ i∈v.ids,U i=true:=by
 intro i hi
 obtain⟨x,h1,h2⟩:=ip hi
 obtain⟨c,h3,rfl⟩:=List.mem_map.1 h1
 exact SX.ids_inU (h c h3) i h2
theorem SV.ids_inU{U:Nat→Bool}{v:SV}(h:v.inU U): ∀ i∈v.ids,U i=true:=by
 cases v with
 |one v=>exact V1.ids_inU h
 |tup vs=>
  intro i hi
  obtain⟨x,h1,h2⟩:=ip hi
  obtain⟨c,h3,rfl⟩:=List.mem_map.1 h1
  exact V1.ids_inU (h c h3) i h2
theorem nH(hM:Mdl B ρ s a w): ∀ (l:List Nat),∀ i∈jj s.look l,s.used i=true
 | [],i,h=>by simp [jj]at h
 |t::r,i,h=>by
  simp only [jj,w7]at h
  rcases h with h | h
  ·split at h
   ·rename_i x hx;exact SV.ids_inU (hM.hu t x hx) i h
   ·cases h
  ·exact nH hM r i h
theorem rB(hM:Mdl B ρ s a w){ids new:List Nat}: ∀ i,memN (qR s.look s.ent ids o new) i=true→ag s.used new i=true:=by
 intro i hi
 have hi:=memN_mem.1 hi
 simp only [qR,w7]at hi
 rcases hi with hi | hi | hi
 ·exact aD _ (nH hM _ i hi)
 ·obtain⟨x,h1,h2⟩:=ip hi
  obtain⟨k,_,rfl⟩:=List.mem_map.1 h1
  unfold la at h2
  split at h2
  ·rename_i e he
   cases e with
   |box T cs=>
    obtain⟨x,h3,h4⟩:=ip (show i∈bA (cs.map Cell.ids) from h2)
    obtain⟨c,h5,rfl⟩:=List.mem_map.1 h3
    exact aD _ (SX.ids_inU ((hM.he k _ he).2.2 c h5) i h4)
   |tree e t xs ho=>
    cases ho with
    |none=>cases h2
    |some q=>
     obtain⟨x,h3,h4⟩:=ip (show i∈bA (q.2.map Cell.ids) from h2)
     obtain⟨c,h5,rfl⟩:=List.mem_map.1 h3
     exact aD _ (SX.ids_inU ((hM.he k _ he).2.2 c h5) i h4)
   |_=>cases h2
  ·cases h2
 ·exact ct hi
theorem Cell.inUb_mono{U U':Nat→Bool}(h: ∀ i,U i=true→U' i=true){c:Cell}(hc:c.inUb U=true):c.inUb U'=true:=by
 simp only [Cell.inUb,List.all_eq_true]at hc ⊢
 exact fun i hi=>h i (hc i hi)
theorem uO{U U':Nat→Bool}(h: ∀ i,U i=true→U' i=true){es:List (Nat×Entry)}(hc:sC U es=true):sC U' es=true:=by
 simp only [sC,List.all_eq_true]at hc ⊢
 intro p hp
 have:=hc p hp
 cases he:p.2 with
 |box T cs=>
  rw [he]at this
  simp only [List.all_eq_true]at this ⊢
  exact fun c kH=>Cell.inUb_mono h (this c kH)
 |tree e t xs ho=>
  cases ho with
  |none=>rfl
  |some q=>
   rw [he]at this
   simp only [List.all_eq_true]at this ⊢
   exact fun c kH=>Cell.inUb_mono h (this c kH)
 |_=>rfl
theorem uD(hM:Mdl B ρ s a w)(hi:ops[i]? =some o)(h:opD P tbl B.W ops s i o=some d)(ba: ∀ b∈d.nd,b=true)(hK: ∀ ρ' a' w',Ext B s.used ρ ρ'→Mdl B ρ' (s.apply d) a' w'→K a' w'):wpOp P ops.toArray Q i K a w:=by
 unfold opD at h
 split at h
 ·cases h
 ·rename_i g hg
  have hw:=vE hg a.tmps
  cases aA:(ng B.W s o.dst&&kb s g)with
  |false=>simp [aA]at h
  |true=>
   simp only [aA,cond_true]at h
   obtain⟨hdst,hgo⟩:=Bool.and_eq_true_iff.1 aA
   split at h
   ·cases h
   ·rename_i r hr
    cases tM:(r.new.all (fun i=> !s.used i)&&r.v.inUb (memN (qR s.look s.ent (gt s.look s.ent (asm s 32 g) o) o r.new)))with
    |false=>simp [tM]at h
    |true=>
     simp only [tM,cond_true]at h
     obtain⟨hck1,hck2⟩:=Bool.and_eq_true_iff.1 tM
     have aS: ∀ i∈r.new,s.used i=false:=fun i hi=>by simpa using List.all_eq_true.1 hck1 i hi
     have ei:=SV.inU_mono (rB hM) (SV.inUb_sound hck2)
     unfold wpOp
     simp only [List.getElem?_toArray,hi]
     cases g with
     |none=>
      simp only [pT,w3]at h
      subst h
      simp only [hw,if_true]
      have c:Ctx B ρ s a w (rsF s.look (gL (fC o.op))) (rsF s.ent (gt s.look s.ent (asm s 32 none) o)) (asm s 32 none):=⟨hM,nE,nE,nL hM 32 none (by simp)⟩
      refine .inl (rl c hr aS ba fun ρ' u w' hx hu hp=> ?_)
      exact hK ρ' _ _ hx (hM.step (d:=⟨o.dst,⟨none,r.v⟩,r.es,r.new,_,r.nd⟩) hx.nm hdst rfl hu ei hp)
     |some p=>
      cases hy:(yl a.tmps p.1==some p.2)with
      |true=>
       simp only [hw,hy,if_true]
       have hy':yl a.tmps p.1=some p.2:=by simpa using hy
       have c:Ctx B ρ s a w (rsF s.look (gL (fC o.op))) (rsF s.ent (gt s.look s.ent (asm s 32 (some p)) o)) (asm s 32 (some p)):=⟨hM,nE,nE,nL hM 32 (some p) (fun q hq=>by cases hq;exact hy')⟩
       have hndr: ∀ b∈r.nd,b=true:=by
        refine sh hM hy' fun b hb=>ba b ?_
        unfold pT at h
        simp only at h
        split at h
        ·cases h;exact hb
        ·split at h
         ·split at h
          ·split at h
           ·cases h;exact hb
           ·cases h
          ·cases h
         ·cases h
       refine .inl (rl c hr aS hndr fun ρ' u w' hx hu hp=> ?_)
       unfold pT at h
       simp only at h
       split at h
       ·rename_i h1 h2
        cases h
        rw [h1,h2]at hp
        rw [h2]at ei
        exact hK ρ' _ _ hx (hM.step (d:=⟨o.dst,⟨some p,r.v⟩,[],[],_,_⟩) hx.nm hdst hgo (by simp only [hy',if_true];exact hu) ei hp)
       ·split at h
        ·rename_i cc kH
         have hct:cc=true:=(mL hM 32 (some p) cc kH).1 (fun q hq=>by cases hq;exact hy')
         subst hct
         split at h
         ·rename_i es' hes'
          split at h
          ·cases h
           exact hK ρ' _ _ hx (hM.step (d:=⟨o.dst,⟨some p,r.v⟩,es',r.new,_,_⟩) hx.nm hdst hgo (by simp only [hy',if_true];exact hu) ei (hp.busy hes'))
          ·cases h
         ·cases h
        ·cases h
      |false=>
       simp only [hw,hy,Bool.false_eq_true,if_false]
       have hy': ¬ yl a.tmps p.1=some p.2:=by simpa using hy
       unfold pT at h
       simp only at h
       split at h
       ·rename_i h1 h2
        cases h
        rw [h2]at ei
        exact hK ρ _ _ (Ext.refl _ _ _) (hM.step (d:=⟨o.dst,⟨some p,r.v⟩,[],[],_,_⟩) (fun _ _=>rfl) hdst hgo (by simp only [hy',if_false]) ei hM.hp)
       ·split at h
        ·rename_i cc kH
         have hcf:cc=false:=by
          cases cc with
          |false=>rfl
          |true=>exact(hy' ((mL hM 32 (some p) true kH).2 rfl p rfl)).elim
         subst hcf
         split at h
         ·rename_i es' hes'
          split at h
          ·rename_i hb
           cases h
           simp only [w4,List.all_eq_true,Bool.or_eq_true]at hb
           obtain⟨hx,hp⟩:=hM.hp.idle hes' aS (fun i hi hn=>by
            rcases hb.2 i hi with h | h
            ·rw [hn]at h;cases h
            ·exact memN_mem.1 h) (uO (rB hM) hb.1)
           exact hK _ _ _ hx (hM.step (d:=⟨o.dst,⟨some p,r.v⟩,es',r.new,_,_⟩) hx.nm hdst hgo (by simp only [hy',if_false]) ei hp)
          ·cases h
         ·cases h
        ·cases h
end
end Go.SX
namespace Go.SX
open Go.RowKit
structure Inf where
 d:Dl
 rs:List Nat
def looks(ops:List Oper)(s:St)(o:Oper):List Nat:=
 gL (fC o.op)++(match sG ops o with | some g=>(asm s 32 g).map (·.1) | none=> [])
def oA(P:Program)(tbl:List (PF P))(W:Nat→Bool)(ops:List Oper):St→Nat→List Oper→Option (St×List Inf)
 |s,_,[]=>some (s,[])
 |s,i,o::r=>match opD P tbl W ops s i o with
  |none=>none
  |some d=>match oA P tbl W ops (s.apply d) (i + 1) r with
   |some (s',l)=>some (s',⟨d,looks ops s o⟩::l)
   |none=>none
def St.clean(s:St):St:=
 {s with look:=fun k=>match s.look k with | some ⟨none,v⟩=>some ⟨none,v⟩ | _=>none,wr:=fun _=>false }
def mH:List Inf→List Nat
 | []=> []
 |x::r=>match x.d.dst with
  |some k=>k::mH r
  |none=>mH r
def oH:List Inf→List Nat
 | []=> []
 |x::r=>wids' x.d++oH r
 where wids' (d:Dl):List Nat:=d.es.map (·.1)++d.new
def St.fin(s:St)(k:Nat)(l:List Inf):St:= { s.clean with next:=s.next + k,log:=mH l++s.log,logE:=oH l++s.logE }
def nx:List Inf→List Bool
 | []=> []
 |x::r=>x.d.nd++nx r
def mP(acc:List Nat):List Edge→Nat
 | []=>0
 |e::r=>bif Region.binds .any e then 2 ^ e.on||| ((acc[e.on]?).getD 0||| mP acc r)else mP acc r
def qi:List Nat→List Oper→List Nat
 |acc,[]=>acc
 |acc,o::r=>qi (acc++ [mP acc o.after.toList]) r
def uo:Nat→List Oper→Bool
 |_,[]=>true
 |i,o::r=>o.after.toList.all (fun e=> !Region.binds .any e||Nat.blt e.on i)&&uo (i + 1) r
def qj:List Nat→List Nat→Bool
 | [],_=>false
 |x::r,l=>bif memN l x then true else qj r l
def rm:Option Nat→List Nat→Bool
 |none,_=>false
 |some k,l=>memN l k
def qs:Option Nat→Option Nat→Bool
 |some a,some b=>Nat.beq a b
 |_,_=>false
def iW(d:Dl):List Nat:=d.es.map (·.1)++d.new
def iw(x y:Inf):Bool:=rm x.d.dst y.rs||rm y.d.dst x.rs||qs x.d.dst y.d.dst||qj (iW x.d) y.d.ids||qj (iW y.d) x.d.ids
def ni(ms:List Nat)(i:Nat)(x:Inf):Nat→List Inf→Bool
 |_,[]=>true
 |j,y::r=>(!iw x y||((ms[j]?).getD 0).testBit i)&&ni ms i x (j + 1) r
def lh(ms:List Nat):Nat→List Inf→Bool
 |_,[]=>true
 |i,x::r=>ni ms i x (i + 1) r&&lh ms (i + 1) r
def sI(ops:List Oper)(l:List Inf):Bool:=uo 0 ops&&lh (qi [] ops) 0 l
def tO:List (Nat×Entry)→List Nat
 | []=> []
 |(id,.tree _ _ _ (some _))::r=>id::tO r
 |_::r=>tO r
def rR:List Inf→List Nat
 | []=> []
 |x::r=>tO x.d.es++rR r
def mG(s:St)(id:Nat):St:=
 match s.ent id with
 |some (.tree e t xs (some (k,hc)))=>match dz s.ent t hc with
  |some (y,ids)=>bif kf ids then { s with ent:=ae s.ent ((id,.tree e t (xs.set k y) none)::gS ids),logE:=id::(ids++s.logE) } else s
  |none=>s
 |_=>s
def pP(s:St)(id:Nat):St:=
 match s.ent id with
 |some (.tree _ _ _ (some _))=> { s with ent:=ae s.ent [(id,.gone)],logE:=id::s.logE }
 |_=>s
def rJ(tk:Bool):List Nat→St→St
 | [],s=>s
 |id::r,s=>rJ tk r (bif tk then pP s id else mG s id)
def iy(P:Program)(tbl:List (PF P))(W:Nat→Bool)(s:St)(ops:List Oper)(draw:Bool):Option (St×List Bool):=
 match oA P tbl W ops s.clean 0 ops with
 |some (s',l)=>bif !draw||sI ops l then some (rJ (PF.takes tbl) (rR l) (s'.fin ops.length l),nx l)else none
 |none=>none
section
variable{P:Program}{tbl:List (PF P)}{s:St}{i:Nat}{ops:List Oper}{o:Oper}{d:Dl}{B:Base}{ρ:Nm}{a:Act}{w:World}{K:Act→World→Prop}{Q:Exit→Act→World→Prop}
theorem uK(hM:Mdl B ρ s a w)(id:Nat): ∃ ρ':Nm,Ext B s.used ρ ρ'∧Mdl B ρ' (mG s id) a w:=by
 unfold mG
 split
 ·rename_i e t xs k hc he
  split
  ·rename_i y ids jp
   cases hb:kf ids with
   |false=>exact⟨ρ,Ext.refl _ _ _,hM⟩
   |true=>
    obtain⟨ρ',x1,h1⟩:=hM.hp.treeClose he jp (kg hb)
    refine⟨ρ',x1,hM.hd,hM.hn,fun k x hk=> ?_,hM.hg,hM.hu,h1,hM.hl⟩
    rw [hM.hs k x hk,SS.at_congr (U:=s.used) x1.nm (hM.hu k x hk) (fun _ _ _=>rfl)]
  ·exact⟨ρ,Ext.refl _ _ _,hM⟩
 ·exact⟨ρ,Ext.refl _ _ _,hM⟩
theorem sx(s:St)(id:Nat):(mG s id).used=s.used:=by
 unfold mG
 split
 ·split
  ·rename_i ids _
   cases kf ids <;> rfl
  ·rfl
 ·rfl
theorem vq(hM:Mdl B ρ s a w)(id:Nat):Mdl B ρ (pP s id) a w:=by
 unfold pP
 split
 ·rename_i e t xs q he
  refine⟨hM.hd,hM.hn,hM.hs,hM.hg,hM.hu,?_,hM.hl⟩
  have hp:=hM.hp
  have eI: ∀ i e2,ae s.ent [(id,Entry.gone)] i=some e2→(i=id∧e2= .gone)∨s.ent i=some e2:=by
   intro i e2 h2
   simp only [ae,look?]at h2
   cases hb:Nat.beq id i with
   |true=>rw [hb]at h2;simp only [cond_true,w3]at h2;exact .inl ⟨(q8 hb).symm,h2.symm⟩
   |false=>rw [hb]at h2;exact .inr h2
  refine⟨fun i e2 h2=> ?_,fun i j e2 e3 b h2 h3 hb2 hb3=> ?_,hp.hf⟩
  ·rcases eI i e2 h2 with⟨rfl,rfl⟩ | h2
   ·exact⟨trivial,(hp.he _ _ he).2.1,trivial⟩
   ·exact hp.he _ _ h2
  ·rcases eI i e2 h2 with⟨rfl,rfl⟩ | h2
   ·cases hb2
   ·rcases eI j e3 h3 with⟨rfl,rfl⟩ | h3
    ·cases hb3
    ·exact hp.hi i j e2 e3 b h2 h3 hb2 hb3
 ·exact hM
theorem tF(s:St)(id:Nat):(pP s id).used=s.used:=by
 unfold pP
 split <;> rfl
theorem nR: ∀ (tk:Bool) (l:List Nat) {s:St} {ρ:Nm},Mdl B ρ s a w→ ∃ ρ':Nm,Ext B s.used ρ ρ'∧Mdl B ρ' (rJ tk l s) a w
 |_,[],s,ρ,hM=>⟨ρ,Ext.refl _ _ _,hM⟩
 |true,id::r,s,ρ,hM=>by
  obtain⟨ρ2,x2,h2⟩:=nR true r (vq hM id)
  rw [tF]at x2
  exact⟨ρ2,x2,h2⟩
 |false,id::r,s,ρ,hM=>by
  obtain⟨ρ1,x1,h1⟩:=uK hM id
  obtain⟨ρ2,x2,h2⟩:=nR false r h1
  rw [sx]at x2
  exact⟨ρ2,x1.trans x2 fun _ h=>h,h2⟩
theorem Mdl.clean(h:Mdl B ρ s a w):Mdl B ρ s.clean a w:=by
 have eI: ∀ k x,s.clean.look k=some x→s.look k=some x∧x.g=none:=by
  intro k x hx
  simp only [St.clean]at hx
  split at hx
  ·rename_i v hv;cases hx;exact⟨hv,rfl⟩
  ·cases hx
 exact⟨h.hd,h.hn,fun k x hx=>h.hs k x (eI k x hx).1,fun k x j b hx hj=>(by rw [(eI k x hx).2]at hj;cases hj),fun k x hx=>h.hu k x (eI k x hx).1,h.hp,h.hl⟩
theorem Mdl.fin(h:Mdl B ρ s a w)(k:Nat)(l:List Inf):Mdl B ρ (s.fin k l) a w:=by
 have:=h.clean
 exact⟨this.hd,this.hn,this.hs,this.hg,this.hu,this.hp,this.hl⟩
theorem mE{id:Nat}(h:s.used id=true):(s.apply d).used id=true:=by
 simp only [St.apply,ag];cases memN d.new id <;> simp [h]
theorem qB: ∀ (r:List Oper) (i:Nat) (s s':St) (l:List Inf),(∀ j,r[j]? =ops[i + j]?)→oA P tbl B.W ops s i r=some (s',l)→(∀ b∈nx l,b=true)→ ∀ (ρ:Nm) (a:Act) (w:World),Mdl B ρ s a w→
  (∀ ρ' a' w',Ext B s.used ρ ρ'→Mdl B ρ' s' a' w'→Q .normal a' w')→wpOps P ops.toArray Q (List.range' i r.length) a w
 | [],i,s,s',l,_,h,_,ρ,a,w,hM,hQ=>by
  simp [oA]at h;obtain⟨rfl,rfl⟩:=h
  simp only [List.length_nil,List.range'_zero,wpOps]
  exact hQ ρ a w (Ext.refl _ _ _) hM
 |o::r,i,s,s',l,hr,h,ba,ρ,a,w,hM,hQ=>by
  simp only [oA]at h
  split at h
  ·cases h
  ·rename_i d hd
   split at h
   ·rename_i s'' l' hl
    cases h
    have hi:ops[i]? =some o:=by have:=hr 0;simpa using this.symm
    rw [w9,List.range'_succ,wpOps_cons]
    refine uD hM hi hd (fun b hb=>ba b (by simp only [nx,w7];exact .inl hb)) fun ρ' a' w' dH hM'=> ?_
    exact qB r (i + 1) _ _ _ (fun j=>by have:=hr (j + 1);simpa [Nat.add_assoc,Nat.add_comm 1 j] using this) hl (fun b hb=>ba b (by simp only [nx,w7];exact .inr hb)) ρ' a' w' hM' fun ρ'' a'' w'' hag' hM''=>hQ ρ'' a'' w'' (dH.trans hag' fun id aR=>mE aR) hM''
   ·cases h
def aY(D:Nat→Bool):Nat→List Inf→St→St
 |_,[],s=>s
 |i,x::r,s=>aY D (i + 1) r (bif D i then s.apply x.d else s)
theorem oW{k:Nat}{l:List Nat}(h:rm (some k) l=false):k∉l:=by
 simp only [rm]at h
 intro hk
 induction l with
 |nil=>simp at hk
 |cons x r ih=>
  simp only [memN]at h
  cases hb:Nat.beq x k with
  |true=>simp [hb]at h
  |false=>
   simp [hb]at h
   rcases List.mem_cons.1 hk with rfl | hk
   ·simp at hb
   ·exact ih h hk
theorem iE{k:Nat}{l:List Nat}(h:memN l k=false):k∉l:=oW (k:=k) (l:=l) h
theorem gc{k:Nat}{l:List Nat}(h:k∈l):memN l k=true:=by
 cases hm:memN l k with
 |true=>rfl
 |false=>exact absurd h (iE hm)
theorem oQ{x l:List Nat}(h:qj x l=false): ∀ k∈x,k∉l:=by
 induction x with
 |nil=>simp
 |cons y r ih=>
  simp only [qj]at h
  cases hm:memN l y with
  |true=>simp [hm]at h
  |false=>
   simp [hm]at h
   intro k hk
   rcases List.mem_cons.1 hk with rfl | hk
   ·exact iE hm
   ·exact ih h k hk
theorem look?_none{α:Type}{es:List (Nat×α)}{k:Nat}(h:k∉es.map (·.1)):look? es k=none:=by
 induction es with
 |nil=>rfl
 |cons p r ih=>
  simp only [w8,List.mem_cons,not_or]at h
  simp only [look?]
  have:Nat.beq p.1 k=false:=by
   cases hb:Nat.beq p.1 k with
   |false=>rfl
   |true=>exact absurd (q8 hb).symm h.1
  simp [this,ih h.2]
theorem look?_mem{α:Type}{es:List (Nat×α)}{k:Nat}{e:α}(h:look? es k=some e):k∈es.map (·.1):=by
 by_cases hk:k∈es.map (·.1)
 ·exact hk
 ·rw [look?_none hk]at h;cases h
theorem tt{x y:Inf}(hx: ∀ k∈iW x.d,k∈x.d.ids)(h:iw x y=false)(s:St):(s.apply x.d).apply y.d=(s.apply y.d).apply x.d:=by
 simp only [iw,Bool.or_eq_false_iff]at h
 have h3:=h.1.1.2
 have h5:=h.2
 clear h
 have hw: ∀ k∈iW y.d,k∉iW x.d:=fun k hk hk'=>oQ h5 k hk (hx k hk')
 obtain⟨⟨xd,xv,xe,xn,xi,xb⟩,xr⟩:=x
 obtain⟨⟨yd,yv,ye,yn,yi,yb⟩,yr⟩:=y
 simp only at h3
 simp only [St.apply]
 congr 1
 ·cases xd with
  |none=>rfl
  |some a=>cases yd with
   |none=>rfl
   |some b=>
  funext i
  simp only [qs]at h3
  dsimp only
  cases h1:Nat.beq i a <;> cases h2:Nat.beq i b <;> try rfl
  rw [← q8 h1,← q8 h2]at h3
  simp at h3
 ·funext i
  simp only [ae]
  cases h1:look? xe i with
  |none=>cases look? ye i <;> rfl
  |some e=>
   cases h2:look? ye i with
   |none=>rfl
   |some e'=>
    refine absurd ?_ (hw i ?_)
    ·simp only [iW,w7];exact .inl (look?_mem h1)
    ·simp only [iW,w7];exact .inl (look?_mem h2)
 ·funext i
  simp only [ag]
  cases memN xn i <;> cases memN yn i <;> rfl
 ·cases xd with
  |none=>rfl
  |some a=>cases yd with
   |none=>rfl
   |some b=>
  funext i
  dsimp only
  cases Nat.beq i a <;> cases Nat.beq i b <;> rfl
theorem kT{D:Nat→Bool}{x:Inf}(hx: ∀ k∈iW x.d,k∈x.d.ids): ∀ (l:List Inf) (k:Nat) (s:St),(∀ j y,l[j]? =some y→D (k + j)=true→iw x y=false)→aY D k l (s.apply x.d)=(aY D k l s).apply x.d
 | [],_,_,_=>rfl
 |y::r,k,s,h=>by
  simp only [aY]
  have h': ∀ j z,r[j]? =some z→D (k + 1 + j)=true→iw x z=false:=fun j z hz hD=>h (j + 1) z (by simpa using hz) (by rw [show k + (j + 1)=k + 1 + j by omega];exact hD)
  cases hD:D k with
  |false=>simp only [cond_false];exact kT hx r (k + 1) s h'
  |true=>
   simp only [cond_true]
   rw [tt hx (h 0 y (by simp) (by simpa using hD)),kT hx r (k + 1) _ h']
def mD(D:Nat→Bool)(i:Nat):Nat→Bool:=fun j=>bif Nat.beq j i then true else D j
theorem ie{D D':Nat→Bool}: ∀ (l:List Inf) (k:Nat) (s:St),(∀ j,j < l.length→D (k + j)=D' (k + j))→aY D k l s=aY D' k l s
 | [],_,_,_=>rfl
 |y::r,k,s,h=>by
  simp only [aY]
  rw [show D k=D' k by simpa using h 0 (by simp)]
  exact ie r (k + 1) _ fun j hj=>by have:=h (j + 1) (by simp;omega);rwa [show k + (j + 1)=k + 1 + j by omega]at this
theorem pH{D:Nat→Bool}{x:Inf}{i:Nat}(hx: ∀ k∈iW x.d,k∈x.d.ids)(hDi:D i=false): ∀ (l:List Inf) (k:Nat) (s:St),k≤i→l[i - k]? =some x→
  (∀ j y,l[j]? =some y→i < k + j→D (k + j)=true→iw x y=false)→aY (mD D i) k l s=(aY D k l s).apply x.d
 | [],_,_,_,h,_=>by simp at h
 |y::r,k,s,hk,hl,h=>by
  simp only [aY]
  by_cases hki:k=i
  ·subst hki
   simp at hl;subst hl
   have h1:mD D k k=true:=by simp [mD]
   simp only [h1,hDi,cond_true,cond_false]
   rw [ie (D':=D) r (k + 1) _ fun j _=>by
    have:Nat.beq (k + 1 + j) k=false:=by
     cases hb:Nat.beq (k + 1 + j) k with
     |false=>rfl
     |true=>have:=q8 hb;omega
    simp [mD,this]]
   exact kT hx r (k + 1) s fun j z hz hD=>h (j + 1) z (by simpa using hz) (by omega) (by rw [show k + (j + 1)=k + 1 + j by omega];exact hD)
  ·have h1:mD D i k=D k:=by
    have:Nat.beq k i=false:=by
     cases hb:Nat.beq k i with
     |false=>rfl
     |true=>exact absurd (q8 hb) hki
    simp [mD,this]
   rw [h1]
   refine pH hx hDi r (k + 1) _ (by omega) ?_ fun j z hz oa hD=>h (j + 1) z (by simpa using hz) (by omega) (by rw [show k + (j + 1)=k + 1 + j by omega];exact hD)
   rw [show i - k=(i - (k + 1)) + 1 by omega]at hl
   simpa using hl
theorem jR{D D':Nat→Bool}{t:Nat}: ∀ (l:List Inf) (k:Nat) (s s':St),s.look t=s'.look t→s.wr t=s'.wr t→(∀ j y,l[j]? =some y→y.d.dst=some t→D (k + j)=D' (k + j))→
  (aY D k l s).look t=(aY D' k l s').look t∧(aY D k l s).wr t=(aY D' k l s').wr t
 | [],_,_,_,h,h',_=>⟨h,h'⟩
 |y::r,k,s,s',h,h',hw=>by
  simp only [aY]
  have eI: ∀ (b:Bool) (s:St),y.d.dst≠some t→(bif b then s.apply y.d else s).look t=s.look t∧(bif b then s.apply y.d else s).wr t=s.wr t:=by
   intro b s ij
   cases b with
   |false=>exact⟨rfl,rfl⟩
   |true=>
    simp only [cond_true,St.apply]
    cases hd:y.d.dst with
    |none=>exact⟨rfl,rfl⟩
    |some q=>
     have:Nat.beq t q=false:=by
      cases hb:Nat.beq t q with
      |false=>rfl
      |true=>rw [← q8 hb]at hd;exact absurd hd ij
     simp [this]
  refine jR r (k + 1) _ _ ?_ ?_ fun j z hz hd=> ?_
  ·by_cases hd:y.d.dst=some t
   ·rw [show D k=D' k by simpa using hw 0 y (by simp) hd]
    cases D' k with
    |false=>exact h
    |true=>simp [St.apply,hd]
   ·rw [(eI _ s hd).1,(eI _ s' hd).1];exact h
  ·by_cases hd:y.d.dst=some t
   ·rw [show D k=D' k by simpa using hw 0 y (by simp) hd]
    cases D' k with
    |false=>exact h'
    |true=>simp [St.apply,hd]
   ·rw [(eI _ s hd).2,(eI _ s' hd).2];exact h'
  ·have:=hw (j + 1) z (by simpa using hz) hd
   rwa [show k + (j + 1)=k + 1 + j by omega]at this
theorem fV{D D':Nat→Bool}{t:Nat}: ∀ (l:List Inf) (k:Nat) (s s':St),s.ent t=s'.ent t→s.used t=s'.used t→(∀ j y,l[j]? =some y→t∈iW y.d→D (k + j)=D' (k + j))→
  (aY D k l s).ent t=(aY D' k l s').ent t∧(aY D k l s).used t=(aY D' k l s').used t
 | [],_,_,_,h,h',_=>⟨h,h'⟩
 |y::r,k,s,s',h,h',hw=>by
  simp only [aY]
  have eI: ∀ (b:Bool) (s:St),t∉iW y.d→(bif b then s.apply y.d else s).ent t=s.ent t∧(bif b then s.apply y.d else s).used t=s.used t:=by
   intro b s ij
   cases b with
   |false=>exact⟨rfl,rfl⟩
   |true=>
    simp only [cond_true,St.apply]
    simp only [iW,w7,not_or]at ij
    refine⟨by simp only [ae,look?_none ij.1],?_⟩
    have:memN y.d.new t=false:=by
     cases hb:memN y.d.new t with
     |false=>rfl
     |true=>exact absurd (memN_mem hb) ij.2
    simp [ag,this]
  refine fV r (k + 1) _ _ ?_ ?_ fun j z hz hd=> ?_
  ·by_cases hd:t∈iW y.d
   ·rw [show D k=D' k by simpa using hw 0 y (by simp) hd]
    cases D' k with
    |false=>exact h
    |true=>
     simp only [cond_true,St.apply,ae]
     cases look? y.d.es t <;> simp [h]
   ·rw [(eI _ s hd).1,(eI _ s' hd).1];exact h
  ·by_cases hd:t∈iW y.d
   ·rw [show D k=D' k by simpa using hw 0 y (by simp) hd]
    cases D' k with
    |false=>exact h'
    |true=>simp [St.apply,ag,h']
   ·rw [(eI _ s hd).2,(eI _ s' hd).2];exact h'
  ·have:=hw (j + 1) z (by simpa using hz) hd
   rwa [show k + (j + 1)=k + 1 + j by omega]at this
 where memN_mem {k:Nat}: ∀ {l:List Nat},memN l k=true→k∈l
 | [],h=>by simp [memN]at h
 |x::r,h=>by
  simp only [memN]at h
  cases hb:Nat.beq x k with
  |true=>rw [q8 hb];simp
  |false=>simp [hb]at h;exact List.mem_cons_of_mem _ (memN_mem h)
theorem kS{D:Nat→Bool}: ∀ (l:List Inf) (k:Nat) (s:St),(aY D k l s).next=s.next
 | [],_,_=>rfl
 |y::r,k,s=>by
  simp only [aY]
  rw [kS r]
  cases D k <;> rfl
end
end Go.SX
namespace Go.SX
open Go.RowKit
section
variable{P:Program}{tbl:List (PF P)}{s s':St}{i nid:Nat}{W:Nat→Bool}{A:List (Nat×Bool)}{ops:List Oper}{o:Oper}{d:Dl}{r:Raw}
theorem vv{look look':Nat→Option SS}{x:Operand}(h: ∀ t,x= .tmp t→look' t=look t):ev look' A x=ev look A x:=by
 cases x with
 |tmp t=>simp only [ev,h t rfl]
 |_=>rfl
theorem qV: ∀ (f:Nat) (g:Option (Nat×Bool)),(∀ q∈asm s f g,s'.look q.1=s.look q.1)→asm s' f g=asm s f g
 |0,none,_=>rfl
 |_ + 1,none,_=>rfl
 |0,some p,_=>rfl
 |f + 1,some p,h=>by
  simp only [asm]at h ⊢
  rw [h p (by simp)]
  rw [qV f _ fun q hq=>h q (List.mem_cons_of_mem _ hq)]
theorem oL: ∀ (f:Nat) (g:Option (Nat×Bool)),(∀ q∈asm s f g,s'.look q.1=s.look q.1)→oK s' f g=oK s f g
 |0,none,_=>rfl
 |_ + 1,none,_=>rfl
 |0,some p,_=>rfl
 |f + 1,some p,h=>by
  simp only [oK]
  rw [h p (by simp [asm])]
  split
  ·rename_i g c hx
   rw [oL f g fun q hq=>h q (by simp only [asm,hx];exact List.mem_cons_of_mem _ hq)]
  ·rfl
theorem pW: ∀ (f:Nat) (g:Option (Nat×Bool)),(∀ q∈asm s f g,s'.look q.1=s.look q.1)→qM s' f g=qM s f g
 |0,none,_=>rfl
 |_ + 1,none,_=>rfl
 |0,some p,_=>rfl
 |f + 1,some p,h=>by
  simp only [qM]
  rw [h p (by simp [asm])]
  split
  ·rename_i g c hx
   rw [pW f g fun q hq=>h q (by simp only [asm,hx];exact List.mem_cons_of_mem _ hq)]
  ·rfl
theorem sg{g:Option (Nat×Bool)}(l:List Bool)(h: ∀ q∈asm s 32 g,s'.look q.1=s.look q.1):mU s' g l=mU s g l:=by
 cases l with
 |nil=>rfl
 |cons x r=>
  cases g with
  |none=>rfl
  |some p=>simp only [mU];rw [oL 32 (some p) h]
theorem ne{look look':Nat→Option SS}: ∀ (l:List Operand),(∀ t∈gL l,look' t=look t)→gy look' A l=gy look A l
 | [],_=>rfl
 |x::r,h=>by
  have h1:ev look' A x=ev look A x:=vv fun t ht=>h t (by subst ht;simp [gL])
  have h2: ∀ t∈gL r,look' t=look t:=fun t ht=>h t (by cases x <;> simp [gL,ht])
  simp only [gy,h1,ne r h2]
theorem mz{look look':Nat→Option SS}: ∀ (l:List Nat),(∀ t∈l,look' t=look t)→jj look' l=jj look l
 | [],_=>rfl
 |t::r,h=>by
  simp only [jj,h t (by simp),mz r fun t ht=>h t (by simp [ht])]
theorem mZ: ∀ (l acc:List Nat) (i:Nat),i∈acc→i∈mi acc l
 | [],acc,i,h=>h
 |k::r,acc,i,h=>by
  simp only [mi]
  cases memN acc k with
  |true=>exact mZ r acc i h
  |false=>exact mZ r _ i (by simp [h])
theorem rq{ent:Nat→Option Entry}: ∀ (f:Nat) (l:List Nat) (i:Nat),i∈l→i∈gX ent f l
 |0,_,_,h=>h
 |f + 1,_,i,h=>rq f _ i (mZ _ _ i h)
theorem kv{ent ent':Nat→Option Entry}{l:List Nat}(h: ∀ i∈l,ent' i=ent i):l.map (la ent')=l.map (la ent):=
 List.map_congr_left fun i hi=>by unfold la;rw [h i hi]
theorem oX{ent ent':Nat→Option Entry}: ∀ (f:Nat) (l:List Nat),(∀ i∈gX ent f l,ent' i=ent i)→gX ent' f l=gX ent f l
 |0,l,_=>rfl
 |f + 1,l,h=>by
  simp only [gX]at h ⊢
  have h1:l.map (la ent')=l.map (la ent):=kv fun i hi=>h i (rq f _ i (mZ _ _ i hi))
  rw [h1]
  exact oX f _ h
theorem td{look look':Nat→Option SS}{ent ent':Nat→Option Entry}(hl: ∀ t∈gL (fC o.op),look' t=look t)(he: ∀ i∈gt look ent A o,ent' i=ent i):gt look' ent' A o=gt look ent A o:=by
 have hd:=ne (A:=A) _ hl
 unfold gt at he ⊢
 split <;> simp only [hd]
 rename_i c hY
 rw [hY]at he
 simp only at he
 split <;> try rfl
 rename_i hb
 exact oX 4 _ fun i hi=>he i (by
  split
  ·rename_i b hb';exact(hb b hb').elim
  ·rw [hY]at hi;exact hi)
theorem rt{α:Type}{f f':Nat→Option α}{l:List Nat}(h: ∀ i∈l,f' i=f i):rsF f' l=rsF f l:=by
 funext i
 unfold rsF
 cases hm:memN l i with
 |true=>simp only [cond_true];exact h i (SX.memN_mem.1 hm)
 |false=>rfl
theorem mo{c:Bool}{ent ent':Nat→Option Entry}: ∀ {es:List (Nat×Entry)},(∀ i∈bH es,ent' i=ent i)→gN c ent' es=gN c ent es
 | [],_=>rfl
 |p::r,h=>by
  simp only [gN,h p.1 (by simp [bH]),mo (es:=r) fun i hi=>h i (by simp only [bH,w8,List.mem_cons]at hi ⊢;exact .inr hi)]
theorem pU{g:Option (Nat×Bool)}{ids:List Nat}(h:pT s o g ids r=some d):(∀ i∈ids,i∈d.ids)∧(∀ i∈bH r.es,i∈d.ids)∧(∀ i∈r.new,i∈d.ids)∧(∀ k∈iW d,k∈d.ids)∧d.dst=o.dst:=by
 unfold pT at h
 split at h
 ·cases h
  refine⟨fun i hi=>by simp [hi],fun i hi=>by simp [hi],fun i hi=>by simp [hi],fun k hk=> ?_,rfl⟩
  simp only [iW,w7]at hk ⊢
  exact .inr hk
 ·split at h
  ·rename_i h1 h2
   cases h
   rw [h1,h2]
   exact⟨fun i hi=>hi,fun i hi=>by simp [bH]at hi,fun i hi=>by simp at hi,fun k hk=>by simp [iW]at hk,rfl⟩
  ·split at h
   ·split at h
    ·rename_i es' hes'
     split at h
     ·cases h
      obtain⟨k1,_⟩:=look?_guardEs hes'
      refine⟨fun i hi=>by simp [hi],fun i hi=>by simp [hi],fun i hi=>by simp [hi],fun k hk=> ?_,rfl⟩
      simp only [iW,w7]at hk ⊢
      rw [← k1]
      exact .inr hk
     ·cases h
    ·cases h
   ·cases h
theorem sa(h:opD P tbl W ops s i o=some d): ∃ g r,sG ops o=some g∧opR P tbl s.look s.ent (asm s 32 g) ((s.next + i) * 64) o=some r∧pT s o g (gt s.look s.ent (asm s 32 g) o) r=some d∧
  (ng W s o.dst&&kb s g)=true∧(r.new.all (fun i=> !s.used i)&&r.v.inUb (memN (qR s.look s.ent (gt s.look s.ent (asm s 32 g) o) o r.new)))=true:=by
 unfold opD at h
 split at h
 ·cases h
 ·rename_i g hg
  cases aA:(ng W s o.dst&&kb s g)with
  |false=>simp [aA]at h
  |true=>
   simp only [aA,cond_true]at h
   split at h
   ·cases h
   ·rename_i r hr
    cases tM:(r.new.all (fun i=> !s.used i)&&r.v.inUb (memN (qR s.look s.ent (gt s.look s.ent (asm s 32 g) o) o r.new)))with
    |false=>simp [tM]at h
    |true=>simp only [tM,cond_true]at h;exact⟨g,r,hg,hr,h,aA,tM⟩
theorem sR(h:opD P tbl W ops s i o=some d): ∀ k∈iW d,k∈d.ids:=by
 obtain⟨g,r,_,_,hf,_⟩:=sa h
 exact(pU hf).2.2.2.1
theorem wt(h:opD P tbl W ops s i o=some d):d.dst=o.dst:=by
 obtain⟨g,r,_,_,hf,_⟩:=sa h
 exact(pU hf).2.2.2.2
theorem uT(h:opD P tbl W ops s i o=some d)(hl: ∀ t∈looks ops s o,s'.look t=s.look t∧s'.wr t=s.wr t)(hd: ∀ t,o.dst=some t→s'.wr t=s.wr t)
  (he: ∀ id∈d.ids,s'.ent id=s.ent id) (hu: ∀ id∈d.ids,s'.used id=s.used id) (hn:s'.next=s.next):opD P tbl W ops s' i o=some d:=by
 obtain⟨g,r,hg,hr,hf,aA,tM⟩:=sa h
 obtain⟨f1,f2,f3,_,_⟩:=pU hf
 have hl1: ∀ t∈gL (fC o.op),s'.look t=s.look t:=fun t ht=>(hl t (by simp [looks,ht])).1
 have hl2: ∀ q∈asm s 32 g,s'.look q.1=s.look q.1∧s'.wr q.1=s.wr q.1:=fun q hq=>hl q.1 (by simp only [looks,hg,w7];exact .inr (List.mem_map_of_mem hq))
 have hasm:asm s' 32 g=asm s 32 g:=qV 32 g fun q hq=>(hl2 q hq).1
 have hdst:ng W s' o.dst=ng W s o.dst:=by
  unfold ng
  cases hod:o.dst with
  |none=>rfl
  |some k=>simp only [hd k hod]
 have hgo:kb s' g=kb s g:=by
  cases g with
  |none=>rfl
  |some p=>exact(hl2 p (by simp [asm])).2
 have ht:gt s'.look s'.ent (asm s 32 g) o=gt s.look s.ent (asm s 32 g) o:=td hl1 fun i hi=>he i (f1 i hi)
 have hR:opR P tbl s'.look s'.ent (asm s 32 g) ((s.next + i) * 64) o=some r:=by
  unfold opR at hr ⊢
  rw [ht,rt hl1,rt fun i hi=>he i (f1 i hi)]
  exact hr
 have aS:r.new.all (fun i=> !s'.used i)=r.new.all (fun i=> !s.used i):=by
  rw [Bool.eq_iff_iff];simp only [List.all_eq_true]
  exact⟨fun hh i hi=>by rw [← hu i (f3 i hi)];exact hh i hi,fun hh i hi=>by rw [hu i (f3 i hi)];exact hh i hi⟩
 have hsrc: ∀ new,qR s'.look s'.ent (gt s.look s.ent (asm s 32 g) o) o new=qR s.look s.ent (gt s.look s.ent (asm s 32 g) o) o new:=fun new=>by
  simp only [qR,mz _ hl1,kv fun i hi=>he i (f1 i hi)]
 have hfin:pT s' o g (gt s.look s.ent (asm s 32 g) o) r=pT s o g (gt s.look s.ent (asm s 32 g) o) r:=by
  unfold pT
  cases g with
  |none=>rfl
  |some p=>
   simp only
   rw [sg r.nd fun q hq=>(hl2 q hq).1,pW 32 (some p) fun q hq=>(hl2 q hq).1]
   split
   ·rfl
   ·split
    ·rw [mo fun i hi=>he i (f2 i hi),hsrc]
     rw [show (bH r.es).all (fun i=>(s'.ent i).isSome||memN r.new i)=(bH r.es).all (fun i=>(s.ent i).isSome||memN r.new i) from by
      rw [Bool.eq_iff_iff];simp only [List.all_eq_true]
      exact⟨fun hh i hi=>by rw [← he i (f2 i hi)];exact hh i hi,fun hh i hi=>by rw [he i (f2 i hi)];exact hh i hi⟩]
    ·rfl
 unfold opD
 simp only [hg,hdst,hgo,hasm,hn,ht,hR,aA,tM,aS,hsrc,cond_true,hfin,hf]
end
end Go.SX
namespace Go.SX
open Go.RowKit
section
variable{P:Program}{tbl:List (PF P)}{s s':St}{i:Nat}{W:Nat→Bool}{ops:List Oper}{o:Oper}{d:Dl}{B:Base}{ρ:Nm}{a:Act}{w:World}{Q:Exit→Act→World→Prop}
theorem pz: ∀ (r:List Oper) (k:Nat) (s s':St) (l:List Inf),oA P tbl W ops s k r=some (s',l)→
  l.length=r.length∧s'=aY (fun _=>true) k l s∧
  ∀ j o,r[j]? =some o→ ∃ x,l[j]? =some x∧opD P tbl W ops (aY (fun m=>Nat.blt m (k + j)) k l s) (k + j) o=some x.d∧x.rs=looks ops (aY (fun m=>Nat.blt m (k + j)) k l s) o
 | [],k,s,s',l,h=>by
  simp [oA]at h;obtain⟨rfl,rfl⟩:=h
  exact⟨rfl,rfl,fun j o ho=>by simp at ho⟩
 |o::r,k,s,s',l,h=>by
  simp only [oA]at h
  split at h
  ·cases h
  ·rename_i d hd
   split at h
   ·rename_i s1 l1 h1
    cases h
    obtain⟨e1,e2,e3⟩:=pz r (k + 1) _ _ _ h1
    refine⟨by simp [e1],by simp only [aY,cond_true];exact e2,fun j o' ho'=> ?_⟩
    cases j with
    |zero=>
     simp at ho';subst ho'
     have:aY (fun m=>Nat.blt m (k + 0)) k (⟨d,looks ops s o⟩::l1) s=s:=by
      have h0: ∀ (l:List Inf) (m:Nat) (s:St),k≤m→aY (fun q=>Nat.blt q (k + 0)) m l s=s:=by
       intro l
       induction l with
       |nil=>intros;rfl
       |cons y t ih=>
        intro m s hm
        simp only [aY]
        have hb:Nat.blt m (k + 0)=false:=by
         cases hb:Nat.blt m (k + 0)with
         |false=>rfl
         |true=>have:=zW hb;omega
        rw [hb];exact ih (m + 1) s (by omega)
      exact h0 _ _ _ (Nat.le_refl _)
     rw [this]
     exact⟨⟨d,looks ops s o⟩,by simp,hd,rfl⟩
    |succ j=>
     obtain⟨x,hx1,hx2,hx3⟩:=e3 j o' (by simpa using ho')
     have hb:Nat.blt k (k + (j + 1))=true:=Nat.ble_eq_true_of_le (by omega)
     refine⟨x,by simpa using hx1,?_⟩
     simp only [aY,hb,cond_true]
     rw [show k + (j + 1)=k + 1 + j by omega]
     exact⟨hx2,hx3⟩
   ·cases h
def Closed(ops:List Oper)(D:Nat→Bool):Prop:= ∀ j o,ops[j]? =some o→D j=true→ ∀ e∈o.after.toList,Region.binds .any e=true→D e.on=true
theorem nt{D:Nat→Bool}{acc:List Nat}(hacc: ∀ j m i,acc[j]? =some m→m.testBit i=true→D j=true→D i=true):
  ∀ (es:List Edge),(∀ e∈es,Region.binds .any e=true→D e.on=true)→ ∀ i,(mP acc es).testBit i=true→D i=true
 | [],_,i,h=>by simp [mP]at h
 |e::r,he,i,h=>by
  simp only [mP]at h
  have ih:=nt hacc r (fun e' h'=>he e' (List.mem_cons_of_mem _ h')) i
  cases hb:Region.binds .any e with
  |false=>simp only [hb,cond_false]at h;exact ih h
  |true=>
   simp only [hb,cond_true,Nat.testBit_or,Bool.or_eq_true]at h
   have hon:=he e (by simp) hb
   rcases h with h | h | h
   ·rw [Nat.testBit_two_pow]at h
    have:e.on=i:=by simpa using h
    rw [← this];exact hon
   ·cases ha:acc[e.on]? with
    |none=>simp [ha]at h
    |some m=>simp [ha]at h;exact hacc _ m i ha h hon
   ·exact ih h
theorem oP{D:Nat→Bool}(hD:Closed ops D): ∀ (r:List Oper) (acc:List Nat),(∀ j,r[j]? =ops[acc.length + j]?)→(∀ j m i,acc[j]? =some m→m.testBit i=true→D j=true→D i=true)→
  ∀ j m i,(qi acc r)[j]? =some m→m.testBit i=true→D j=true→D i=true
 | [],acc,_,hacc,j,m,i,hj,hm,hDj=>hacc j m i (by simpa [qi] using hj) hm hDj
 |o::r,acc,hr,hacc,j,m,i,hj,hm,hDj=>by
  simp only [qi]at hj
  refine oP hD r (acc++ [mP acc o.after.toList]) (fun k=> ?_) (fun j' m' i' hj' hm' hDj'=> ?_) j m i hj hm hDj
  ·have:=hr (k + 1)
   simp only [w5,w9,List.length_nil]
   rw [show acc.length + (0 + 1) + k=acc.length + (k + 1) by omega,← this];simp
  ·rw [List.getElem?_append]at hj'
   split at hj'
   ·exact hacc j' m' i' hj' hm' hDj'
   ·rename_i bI
    have h0:=hr 0
    have he:j'=acc.length:=by
     rcases Nat.lt_or_ge (j' - acc.length) 1 with h | h
     ·omega
     ·rw [List.getElem?_eq_none (by simpa using h)]at hj';cases hj'
    subst he
    simp at hj';subst hj'
    simp at h0
    exact nt hacc _ (fun e he hb=>hD _ o h0.symm hDj' e he hb) i' hm'
theorem mr{ms:List Nat}{i:Nat}{x:Inf}: ∀ (l:List Inf) (k:Nat),ni ms i x k l=true→ ∀ j y,l[j]? =some y→iw x y=true→((ms[k + j]?).getD 0).testBit i=true
 | [],_,_,j,y,hy,_=>by simp at hy
 |z::r,k,h,j,y,hy,hc=>by
  simp only [ni,w4]at h
  cases j with
  |zero=>simp at hy;subst hy;rw [hc]at h;simpa using h.1
  |succ j=>
   have:=mr r (k + 1) h.2 j y (by simpa using hy) hc
   rwa [show k + 1 + j=k + (j + 1) by omega]at this
theorem mq{ms:List Nat}: ∀ (l:List Inf) (k:Nat),lh ms k l=true→ ∀ i j x y,l[i]? =some x→l[j]? =some y→i < j→iw x y=true→((ms[k + j]?).getD 0).testBit (k + i)=true
 | [],_,_,i,j,x,y,hx,_,_,_=>by simp at hx
 |z::r,k,h,i,j,x,y,hx,hy,oa,hc=>by
  simp only [lh,w4]at h
  cases j with
  |zero=>omega
  |succ j=>
   cases i with
   |zero=>
    simp at hx;subst hx
    have:=mr r (k + 1) h.1 j y (by simpa using hy) hc
    rwa [show k + 1 + j=k + (j + 1) by omega]at this
   |succ i=>
    have:=mq r (k + 1) h.2 i j x y (by simpa using hx) (by simpa using hy) (by omega) hc
    rwa [show k + 1 + j=k + (j + 1) by omega,show k + 1 + i=k + (i + 1) by omega]at this
theorem lN(x y:Inf):iw x y=iw y x:=by
 have h:qs x.d.dst y.d.dst=qs y.d.dst x.d.dst:=by
  cases x.d.dst with
  |none=>cases y.d.dst <;> rfl
  |some a=>cases y.d.dst with
   |none=>rfl
   |some b=>simp only [qs];rw [Bool.eq_iff_iff,Nat.beq_eq,Nat.beq_eq];exact eq_comm
 simp only [iw,h]
 cases rm x.d.dst y.rs <;> cases rm y.d.dst x.rs <;> cases qs y.d.dst x.d.dst <;> cases qj (iW x.d) y.d.ids <;> cases qj (iW y.d) x.d.ids <;> rfl
theorem pM{x y:Inf}{t:Nat}(hx:x.d.dst=some t)(ht:t∈y.rs):iw x y=true:=by
 cases h:iw x y with
 |true=>rfl
 |false=>simp only [iw,Bool.or_eq_false_iff]at h;rw [hx]at h;exact absurd ht (oW h.1.1.1.1)
theorem pa{x y:Inf}{t:Nat}(hx:x.d.dst=some t)(hy:y.d.dst=some t):iw x y=true:=by
 simp [iw,hx,hy,qs]
theorem nc{x y:Inf}{t:Nat}(hx:t∈iW x.d)(hy:t∈y.d.ids):iw x y=true:=by
 cases h:iw x y with
 |true=>rfl
 |false=>simp only [iw,Bool.or_eq_false_iff]at h;exact absurd hy (oQ h.1.2 t hx)
theorem tZ{l:List Inf}(hrun:oA P tbl W ops s 0 ops=some (s',l))(hind:lh (qi [] ops) 0 l=true){D:Nat→Bool}(hD:Closed ops D){i:Nat}(ho:ops[i]? =some o)(hDi:D i=false)
  (hr: ∀ e∈o.after.toList,Region.binds .any e=true→D e.on=true):
  ∃ x,l[i]? =some x∧opD P tbl W ops (aY D 0 l s) i o=some x.d∧aY (mD D i) 0 l s=(aY D 0 l s).apply x.d:=by
 obtain⟨bj,_,pc⟩:=pz ops 0 s s' l hrun
 obtain⟨x,hx,gf,hrs⟩:=pc i o ho
 simp only [Nat.zero_add]at gf hrs
 have ord: ∀ p q xp xq,l[p]? =some xp→l[q]? =some xq→p < q→iw xp xq=true→ ∀ D',Closed ops D'→D' q=true→D' p=true:=by
  intro p q xp xq hp hq hpq hc D' hD' hDq
  have h1:=mq l 0 hind p q xp xq hp hq hpq hc
  simp only [Nat.zero_add]at h1
  cases hm:(qi [] ops)[q]? with
  |none=>simp [hm]at h1
  |some m=>
   simp [hm]at h1
   exact oP hD' ops [] (fun j=>by simp) (fun j m i hj=>by simp at hj) q m p hm h1 hDq
 have jp:Closed ops (mD D i):=by
  intro j o' ho' hj e he hb
  simp only [mD]at hj ⊢
  cases hji:Nat.beq j i with
  |true=>
   have:=q8 hji;subst this
   rw [ho]at ho';cases ho'
   have:=hr e he hb
   cases Nat.beq e.on j <;> simp [this]
  |false=>
   simp [hji]at hj
   have:=hD j o' ho' hj e he hb
   cases Nat.beq e.on i <;> simp [this]
 have hsame: ∀ j y,l[j]? =some y→j≠i→iw x y=true→D j=Nat.blt j i:=by
  intro j y hy hji hc
  rcases Nat.lt_or_ge j i with bI | hge
  ·have h1:=ord j i y x hy hx bI (by rw [lN];exact hc) (mD D i) jp (by simp [mD])
   simp only [mD]at h1
   have:Nat.beq j i=false:=by
    cases hb:Nat.beq j i with
    |false=>rfl
    |true=>exact absurd (q8 hb) hji
   simp [this]at h1
   rw [h1];exact(Nat.ble_eq_true_of_le (by omega)).symm
  ·have hgt:i < j:=by omega
   have h1:D j=false:=by
    cases hDj:D j with
    |false=>rfl
    |true=>rw [ord i j x y hx hy hgt hc D hD hDj]at hDi;cases hDi
   rw [h1]
   cases hb:Nat.blt j i with
   |false=>rfl
   |true=>have:=zW hb;omega
 have hself:D i=Nat.blt i i:=by
  rw [hDi]
  cases hb:Nat.blt i i with
  |false=>rfl
  |true=>have:=zW hb;omega
 have hagree: ∀ j y,l[j]? =some y→iw x y=true→D (0 + j)=Nat.blt (0 + j) i:=by
  intro j y hy hc
  rw [Nat.zero_add]
  by_cases hji:j=i
  ·subst hji;exact hself
  ·exact hsame j y hy hji hc
 refine⟨x,hx,?_,?_⟩
 ·have hwx:=sR gf
  refine uT gf (fun t ht=> ?_) (fun t ht=> ?_) (fun id aR=> ?_) (fun id aR=> ?_) ?_
  ·exact jR l 0 s s rfl rfl fun j y hy hyd=>hagree j y hy (by rw [lN];exact pM hyd (by rw [hrs];exact ht))
  ·have hxd:x.d.dst=some t:=by rw [wt gf];exact ht
   exact(jR l 0 s s rfl rfl fun j y hy hyd=>hagree j y hy (pa hxd hyd)).2
  ·exact(fV l 0 s s rfl rfl fun j y hy hyd=>hagree j y hy (by rw [lN];exact nc hyd aR)).1
  ·exact(fV l 0 s s rfl rfl fun j y hy hyd=>hagree j y hy (by rw [lN];exact nc hyd aR)).2
  ·rw [kS,kS]
 ·have hwx:=sR gf
  refine pH hwx hDi l 0 s (by omega) (by simpa using hx) fun j y hy oa hDj=> ?_
  rw [Nat.zero_add]at oa hDj
  cases hc:iw x y with
  |false=>rfl
  |true=>rw [ord i j x y hx hy oa hc D hD hDj]at hDi;cases hDi
theorem pS: ∀ (l:List Bool) (i:Nat),l[i]? =some false→((l.set i true).filter (!·)).length + 1=(l.filter (!·)).length
 | [],i,h=>by simp at h
 |b::r,0,h=>by simp at h;subst h;simp
 |b::r,i + 1,h=>by
  have:=pS r i (by simpa using h)
  cases b <;> simp <;> omega
theorem pI: ∀ (r:List Oper) (k:Nat),uo k r=true→ ∀ j o,r[j]? =some o→ ∀ e∈o.after.toList,Region.binds .any e=true→e.on < k + j
 | [],_,_,j,o,ho,_,_,_=>by simp at ho
 |q::r,k,h,j,o,ho,e,he,hb=>by
  simp only [uo,w4]at h
  cases j with
  |zero=>
   simp at ho;subst ho
   have:=List.all_eq_true.1 h.1 e he
   rw [hb]at this
   have h2:Nat.blt e.on k=true:=by simpa only [Bool.not_true,Bool.false_or] using this
   have:=zW h2
   omega
  |succ j=>
   have:=pI r (k + 1) h.2 j o (by simpa using ho) e he hb
   omega
theorem kU{D:Nat→Bool}{id:Nat}: ∀ (l:List Inf) (k:Nat) (s:St),s.used id=true→(aY D k l s).used id=true
 | [],_,_,h=>h
 |y::r,k,s,h=>by
  simp only [aY]
  refine kU r _ _ ?_
  cases D k with
  |false=>exact h
  |true=>exact mE h
theorem rk{b:Bool}: ∀ {l:List Inf} {j:Nat} {x:Inf},l[j]? =some x→b∈x.d.nd→b∈nx l
 | [],_,_,h,_=>by simp at h
 |y::r,0,x,h,hb=>by simp at h;subst h;simp only [nx,w7];exact .inl hb
 |y::r,j + 1,x,h,hb=>by
  simp only [nx,w7]
  exact .inr (rk (l:=r) (j:=j) (by simpa using h) hb)
theorem ub{l:List Inf}(hrun:oA P tbl B.W ops s 0 ops=some (s',l))(hind:sI ops l=true)(ba: ∀ b∈nx l,b=true)(ρ0:Nm)(hQ: ∀ ρ' a' w',Ext B s.used ρ0 ρ'→Mdl B ρ' s' a' w'→Q .normal a' w'):
  ∀ (fuel:Nat) (listed:Array Bool) (ρ:Nm) (a:Act) (w:World),listed.size=ops.length→(listed.toList.filter (!·)).length≤fuel→Closed ops (fun j=>listed.getD j false)→Ext B s.used ρ0 ρ→Mdl B ρ (aY (fun j=>listed.getD j false) 0 l s) a w→
   wpAny P .any ops.toArray Q fuel listed a w:=by
 simp only [sI,w4]at hind
 obtain⟨bj,hs',_⟩:=pz ops 0 s s' l hrun
 have hdone: ∀ (listed:Array Bool) (ρ:Nm) (a:Act) (w:World),listed.size=ops.length→(∀ j,j < ops.length→listed.getD j false=true)→Ext B s.used ρ0 ρ→Mdl B ρ (aY (fun j=>listed.getD j false) 0 l s) a w→Q .normal a w:=by
  intro listed ρ a w _ jx dH hM
  refine hQ ρ a w dH ?_
  rw [hs']
  rwa [ie l 0 s (D':=fun _=>true) fun j hj=>by simpa using jx j (by omega)]at hM
 have hnil: ∀ (listed:Array Bool),listed.size=ops.length→Region.ready .any ops.toArray listed= []→ ∀ j,j < ops.length→listed.getD j false=true:=by
  intro listed eb hr j
  induction j using Nat.strongRecOn with
  |_ j ih=>
   intro hj
   cases hd:listed.getD j false with
   |true=>rfl
   |false=>
    exfalso
    have eQ:j∈Region.ready .any ops.toArray listed:=by
     refine mem_ready.2 ⟨?_,ops[j],by simp [hj],fun e he hb=> ?_⟩
     ·simp [eb,hj]at hd ⊢;exact hd
     ·have:=pI ops 0 hind.1 j ops[j] (by simp [hj]) e (by simpa using he) hb
      exact ih e.on (by omega) (by omega)
    rw [hr]at eQ;cases eQ
 intro fuel
 induction fuel with
 |zero=>
  intro listed ρ a w eb hc jp dH hM
  have jx: ∀ j,j < ops.length→listed.getD j false=true:=by
   intro j hj
   have:listed.toList.filter (!·)= []:=List.length_eq_zero_iff.1 (Nat.le_zero.1 hc)
   rw [List.filter_eq_nil_iff]at this
   have:=this listed[j] (by simp)
   simp at this
   simp [eb,hj,this]
  refine⟨?_,hdone listed ρ a w eb jx dH hM⟩
  cases hr:Region.ready .any ops.toArray listed with
  |nil=>rfl
  |cons i r=>
   have hi:i∈Region.ready .any ops.toArray listed:=by rw [hr];simp
   obtain⟨io,o,ho,_⟩:=mem_ready.1 hi
   have bI:i < ops.length:=by simpa using (Array.getElem?_eq_some_iff.1 ho).1
   have:=jx i bI
   simp [eb,bI]at this io;rw [this]at io;cases io
 |succ fuel ih=>
  intro listed ρ a w eb hc jp dH hM
  refine⟨fun hr=>hdone listed ρ a w eb (hnil listed eb hr) dH hM,fun i hi=> ?_⟩
  obtain⟨io,o,ho,jx⟩:=mem_ready.1 hi
  have ho':ops[i]? =some o:=by simpa using ho
  have bI:i < ops.length:=(zQ.1 ho').1
  have hDi:listed.getD i false=false:=by simp [eb,bI]at io ⊢;exact io
  obtain⟨x,hx,gf,hadd⟩:=tZ hrun hind.2 jp ho' hDi (fun e he hb=>jx e (by simpa using he) hb)
  have hnx: ∀ b∈x.d.nd,b=true:=fun b hb=>ba b (rk hx hb)
  refine uD hM ho' gf hnx fun ρ' a' w' hag' hM'=> ?_
  have hD':(fun j=>(listed.setIfInBounds i true).getD j false)=mD (fun j=>listed.getD j false) i:=by
   funext j
   simp only [mD]
   cases hb:Nat.beq j i with
   |true=>have:=q8 hb;subst this;simp [eb,bI]
   |false=>
    have ij:i≠j:=fun e=>by subst e;simp at hb
    simp [Array.getElem?_setIfInBounds_ne ij]
  refine ih _ ρ' a' w' (by simpa using eb) ?_ ?_ (dH.trans hag' fun id aR=>kU l 0 s aR) ?_
  ·have h1:=pS listed.toList i (by simp [eb,bI]at hDi ⊢;exact hDi)
   simp only [Array.toList_setIfInBounds]
   omega
  ·rw [hD']
   intro j o' hj hDj e he hb
   simp only [mD]at hDj ⊢
   cases hji:Nat.beq j i with
   |true=>
    have:=q8 hji;subst this
    rw [ho']at hj;cases hj
    have:=jx e (by simpa using he) hb
    cases Nat.beq e.on j <;> simp [this]
   |false=>
    simp only [hji,cond_false]at hDj
    have:=jp j o' hj hDj e he hb
    simp only at this
    cases Nat.beq e.on i <;> simp [this]
  ·rw [hD',hadd];exact hM'
theorem Hp.drawn{ent:Nat→Option Entry}{used:Nat→Bool}(h:Hp B ρ ent used w):Hp B ρ ent used { w with drawn:=w.drawn + 1 } :=by
 refine⟨fun id e he=> ?_,h.hi,⟨h.hf.os,h.hf.tape,h.hf.output,h.hf.size,h.hf.mem,h.hf.dat,h.hf.gl⟩⟩
 obtain⟨h1,h2,h3⟩:=h.he id e he
 exact⟨Entry.holds_keep rfl (fun _ _=>rfl) (fun _ _ h=>h) h2 h3 h1 (fun _ _=>rfl) fun b hb=>(Entry.ob_lt h1 hb).2.2,h2,h3⟩
theorem ry: ∀ (r:List Oper) (i:Nat) {s s':St} {l:List Inf},oA P tbl W ops s i r=some (s',l)→ ∀ id,s.used id=true→s'.used id=true
 | [],i,s,s',l,h,id,aR=>by simp only [oA,w3,Prod.mk.injEq]at h;rw [← h.1];exact aR
 |o::r,i,s,s',l,h,id,aR=>by
  simp only [oA]at h
  split at h
  ·cases h
  ·rename_i d _
   split at h
   ·rename_i s2 l2 h2
    simp only [w3,Prod.mk.injEq]at h
    rw [← h.1]
    exact ry r (i + 1) h2 id (mE aR)
   ·cases h
theorem nW{id:Nat}{draw:Bool}(cq:P.follows .mixedOrders=true){nd:List Bool}(h:iy P tbl B.W s ops draw=some (s',nd))(ba: ∀ b∈nd,b=true)(hM:Mdl B ρ s a w)(hQ: ∀ ρ' a' w',Ext B s.used ρ ρ'→Mdl B ρ' s' a' w'→Q .normal a' w'):
  (Code.region id ops.toArray draw).wp P Q a w:=by
 unfold iy at h
 split at h
 ·rename_i s1 l hl
  cases hb:(!draw||sI ops l)with
  |false=>simp [hb]at h
  |true=>
   simp only [hb,cond_true,w3,Prod.mk.injEq]at h
   obtain⟨h,h'⟩:=h
   subst h;subst h'
   have hQ': ∀ ρ' a' w',Ext B s.clean.used ρ ρ'→Mdl B ρ' s1 a' w'→Q .normal a' w':=fun ρ' a' w' dH hM'=>by
    obtain⟨ρ2,x2,h2⟩:=nR (PF.takes tbl) (rR l) (hM'.fin ops.length l)
    exact hQ ρ2 a' w' (dH.trans x2 fun id aR=>ry ops 0 hl id aR) h2
   cases draw with
   |false=>
    refine wp_region ?_
    have:=qB (Q:=Q) ops 0 _ _ _ (fun j=>by simp) hl ba ρ a w hM.clean hQ'
    simpa [List.range_eq_range'] using this
   |true=>
    simp only [Bool.not_true,Bool.false_or]at hb
    refine wp_region_any cq ?_
    have hM':Mdl B ρ s.clean a { w with drawn:=w.drawn + 1 } :=by
     have:=hM.clean
     exact⟨this.hd,this.hn,this.hs,this.hg,this.hu,this.hp.drawn,this.hl⟩
    refine ub hl hb ba ρ hQ' ops.toArray.size _ ρ a _ (by simp) ?_ ?_ (Ext.refl _ _ _) ?_
    ·refine Nat.le_trans (List.length_filter_le _ _) (by simp)
    ·intro j o hj hD
     simp only [Array.getD_eq_getD_getElem?]at hD
     rw [Array.getElem?_replicate]at hD
     split at hD <;> simp at hD
    ·rw [ie l 0 _ (D':=fun _=>false) fun j hj=>by
      simp only [Array.getD_eq_getD_getElem?]
      rw [Array.getElem?_replicate]
      split <;> rfl]
     have: ∀ (l:List Inf) (k:Nat) (s:St),aY (fun _=>false) k l s=s:=by
      intro l
      induction l with
      |nil=>intros;rfl
      |cons y r ih=>intro k s;exact ih (k + 1) s
     rw [this];exact hM'
 ·cases h
end
end Go.SX
namespace Go.SX
open Go.RowKit
inductive Ex where
 |normal
 |exit (id:Nat)
 |ret
def Ex.out:Ex→Exit
 | .normal=> .normal
 | .exit id=> .exit id
 | .ret=> .ret
inductive R where
 |none
 |done (x:Ex) (s:St)
 |need (nd:List Bool) (r:R)
 |ite (b:Bool) (t e:R)
def R.bind:R→(St→R)→R
 | .none,_=> .none
 | .done .normal s,f=>f s
 | .done x s,_=> .done x s
 | .need nd r,f=> .need nd (r.bind f)
 | .ite b t e,f=> .ite b (t.bind f) (e.bind f)
def Ex.inBlock(id:Nat):Ex→Ex
 | .exit k=>bif Nat.beq k id then .normal else .exit k
 |x=>x
def R.inBlock(id:Nat):R→R
 | .none=> .none
 | .done x s=> .done (x.inBlock id) s
 | .need nd r=> .need nd (r.inBlock id)
 | .ite b t e=> .ite b (t.inBlock id) (e.inBlock id)
def rW(b:Bool):Option SS→Option SS→Option SS
 |some ⟨none,v⟩,some ⟨none,v'⟩=>(ew b v v').map (⟨none,·⟩)
 |_,_=>none
def qn(b:Bool):Option Entry→Option Entry→Option Entry
 |some e,some e'=>fk b e (some e')
 |_,_=>none
def rU:Option SS→Option SS→Option SS
 |some ⟨none,v⟩,some ⟨none,_⟩=>some ⟨none,v⟩
 |_,_=>none
def pv:Option Entry→Option Entry→Option Entry
 |some x,some _=>some x
 |_,_=>none
def St.reset(s:St):St:= { s with log:= [],logE:= [] }
def da(b:Bool)(s s1 s2:St):St:=
 {look:=fun k=>bif memN s1.log k||memN s2.log k then rW b (s1.look k) (s2.look k)else rU (s1.look k) (s2.look k)
  ent:=fun k=>bif memN s1.logE k||memN s2.logE k then qn b (s1.ent k) (s2.ent k)else pv (s1.ent k) (s2.ent k)
  used:=fun k=>s1.used k||s2.used k
  wr:=fun _=>false
  next:=Nat.max s1.next s2.next
  log:=s1.log++(s2.log++s.log)
  logE:=s1.logE++(s2.logE++s.logE) }
def oj(b:Bool)(s1 s2:St):Bool:=
 (s1.log++s2.log).all (fun k=>match s1.look k,s2.look k with
  |some ⟨none,v⟩,some ⟨none,v'⟩=>(ew b v v').isSome
  |_,_=>true)&&
 (s1.logE++s2.logE).all (fun k=>match s1.ent k,s2.ent k with
  |some e,some e'=>(fk b e (some e')).isSome
  |_,_=>true)
def R.relog(s:St):R→R
 | .none=> .none
 | .done x s'=> .done x { s' with log:=s'.log++s.log,logE:=s'.logE++s.logE }
 | .need nd r=> .need nd (r.relog s)
 | .ite b t e=> .ite b (t.relog s) (e.relog s)
def tU(b:Bool)(s:St)(t e:R):R:=
 match t,e with
 | .done .normal s1,.done .normal s2=>bif oj b s1 s2 then .done .normal (da b s s1 s2)else .ite b (R.relog s (.done .normal s1)) (R.relog s (.done .normal s2))
 |t,e=> .ite b (t.relog s) (e.relog s)
def R.needs:R→List Bool
 | .need nd r=>nd++r.needs
 |_=> []
def R.core:R→R
 | .need _ r=>r.core
 |r=>r
def rZ(nd:List Bool)(r:R):R:=
 match nd with
 | []=>r
 |l=> .need l r
def uA(b:Bool)(s:St)(t e:R):R:=rZ (t.needs.map (fun n=> !b||n)++e.needs.map (fun n=>b||n)) (tU b s t.core e.core)
def nl:Code→Nat
 | .seq x y=>nl x + nl y
 | .cond _ x y=>nl x + nl y
 | .block _ c=>nl c
 | .scope c=>nl c
 | .loop _=>1
 |_=>0
def wj:Oper→Bool
 |⟨_,.panic _,_,_,_,_⟩=>true
 |_=>false
def lq:Code→Bool
 | .region _ ops _=>ops.toList.any wj
 | .seq x y=>lq x||(match x with | .region .. =>lq y | .skip=>lq y | _=>false)
 | .block _ c=>lq c
 | .scope c=>lq c
 |_=>false
def gi(P:Program)(tbl:List (PF P))(W:Nat→Bool):List (St→R)→Code→St→R
 |_,.skip,s=> .done .normal s
 |_,.region _ ops draw,s=>match iy P tbl W s ops.toList draw with
  |some (s',nd)=>rZ nd (.done .normal s')
  |none=> .none
 |lf,.seq x y,s=>(gi P tbl W lf x s).bind (gi P tbl W (lf.drop (nl x)) y)
 |lf,.cond c x y,s=>match ev s.look [] c with
  |some (.one ⟨false,[.val (.bool b)]⟩)=>bif lq x then .need [!b] (gi P tbl W (lf.drop (nl x)) y s)else uA b s (gi P tbl W lf x s.reset) (gi P tbl W (lf.drop (nl x)) y s.reset)
  |_=> .none
 |lf,.block id c,s=>(gi P tbl W lf c s).inBlock id
 |_,.exit id,s=> .done (.exit id) s
 |lf,.scope c,s=>gi P tbl W lf c s
 |_,.label _,s=> .done .normal s
 |_,.ret,s=> .done .ret s
 |lf,.loop _,s=>match lf with
  |F::_=>F s
  | []=> .none
 |_,_,_=> .none
def R.sat(post:Ex→St→Prop):R→Prop
 | .none=>False
 | .done x s=>post x s
 | .need nd r=>(∀ b∈nd,b=true)∧r.sat post
 | .ite b t e=>(b=true→t.sat post)∧(b=false→e.sat post)
def Sat(P:Program)(B:Base)(c:Code)(s:St)(post:Ex→St→Prop):Prop:= ∀ ρ a w,Mdl B ρ s a w→c.wp P (fun e a' w'=> ∃ x s' ρ',e=Ex.out x∧Ext B s.used ρ ρ'∧Mdl B ρ' s' a' w'∧post x s') a w
structure Unch (s s':St):Prop where
 look: ∀ k,k∉s'.log→s'.look k=s.look k∨s'.look k=none
 ent: ∀ k,k∉s'.logE→s'.ent k=s.ent k
 log: ∀ k∈s.log,k∈s'.log
 logE: ∀ k∈s.logE,k∈s'.logE
 used: ∀ k,s.used k=true→s'.used k=true
def R.all(post:Ex→St→Prop):R→Prop
 | .none=>True
 | .done x s=>post x s
 | .need _ r=>r.all post
 | .ite _ t e=>t.all post∧e.all post
structure LoopOk (P:Program) (W:Nat→Bool) (F:St→R) (b:Code):Prop where
 ok: ∀ (B:Base) (s:St) (post:Ex→St→Prop),B.W=W→(F s).sat post→Sat P B (.loop b) s post
 un: ∀ s,(F s).all fun _ s'=>Unch s s'
def LOk(P:Program)(W:Nat→Bool):List (St→R)→Code→Prop
 |lf,.seq x y=>LOk P W lf x∧LOk P W (lf.drop (nl x)) y
 |lf,.cond _ x y=>LOk P W lf x∧LOk P W (lf.drop (nl x)) y
 |lf,.block _ c=>LOk P W lf c
 |lf,.scope c=>LOk P W lf c
 |lf,.loop b=> ∀ F r,lf=F::r→LoopOk P W F b
 |_,_=>True
def iX:Code→List Code
 | .seq x y=>iX x++iX y
 | .cond _ x y=>iX x++iX y
 | .block _ c=>iX c
 | .scope c=>iX c
 | .loop b=> [b]
 |_=> []
section
variable{P:Program}{tbl:List (PF P)}{s s' s1 s2:St}{W:Nat→Bool}{lf:List (St→R)}{B:Base}{ρ:Nm}{a:Act}{w:World}{post post':Ex→St→Prop}
theorem R.sat_mono(hp: ∀ x s,post x s→post' x s): ∀ {r:R},r.sat post→r.sat post'
 | .none,h=>h
 | .done x s,h=>hp x s h
 | .need _ _,h=>⟨h.1,R.sat_mono hp h.2⟩
 | .ite _ _ _,h=>⟨fun hb=>R.sat_mono hp (h.1 hb),fun hb=>R.sat_mono hp (h.2 hb)⟩
theorem R.all_mono{p q:Ex→St→Prop}(hp: ∀ x s,p x s→q x s): ∀ {r:R},r.all p→r.all q
 | .none,_=>trivial
 | .done x s,h=>hp x s h
 | .need _ r,h=>R.all_mono (r:=r) hp h
 | .ite _ _ _,h=>⟨R.all_mono hp h.1,R.all_mono hp h.2⟩
theorem R.sat_bind{f:St→R}: ∀ {r:R},(r.bind f).sat post→r.sat (fun x s=>match x with | .normal=>(f s).sat post | x=>post x s)
 | .none,h=>h
 | .done .normal _,h=>h
 | .done (.exit _) _,h=>h
 | .done .ret _,h=>h
 | .need _ _,h=>⟨h.1,R.sat_bind h.2⟩
 | .ite _ _ _,h=>⟨fun hb=>R.sat_bind (h.1 hb),fun hb=>R.sat_bind (h.2 hb)⟩
theorem R.sat_inBlock{id:Nat}: ∀ {r:R},(r.inBlock id).sat post→r.sat (fun x s=>post (x.inBlock id) s)
 | .none,h=>h
 | .done _ _,h=>h
 | .need _ _,h=>⟨h.1,R.sat_inBlock h.2⟩
 | .ite _ _ _,h=>⟨fun hb=>R.sat_inBlock (h.1 hb),fun hb=>R.sat_inBlock (h.2 hb)⟩
theorem gP: ∀ c:Code,(iX c).length=nl c
 | .seq x y=>by simp [iX,nl,gP x,gP y]
 | .cond _ x y=>by simp [iX,nl,gP x,gP y]
 | .block _ c=>by simp [iX,nl,gP c]
 | .scope c=>by simp [iX,nl,gP c]
 | .loop _ | .skip | .region .. | .rangeFunc .. | .exit _ | .label _ | .goto _ | .ret | .refuse _=>rfl
theorem LOk.of_tops: ∀ (c:Code) (lf:List (St→R)),(∀ (i:Nat) (F:St→R) (b:Code),lf[i]? =some F→(iX c)[i]? =some b→LoopOk P W F b)→LOk P W lf c
 | .seq x y,lf,h=>by
  refine⟨LOk.of_tops x lf fun i F b hF hb=>h i F b hF ?_,LOk.of_tops y _ fun i F b hF hb=>h (nl x + i) F b (by simpa using hF) ?_⟩
  ·simp only [iX];rw [List.getElem?_append_left (zQ.1 hb).1];exact hb
  ·simp only [iX];rw [List.getElem?_append_right (by rw [gP];omega),gP];simpa using hb
 | .cond _ x y,lf,h=>by
  refine⟨LOk.of_tops x lf fun i F b hF hb=>h i F b hF ?_,LOk.of_tops y _ fun i F b hF hb=>h (nl x + i) F b (by simpa using hF) ?_⟩
  ·simp only [iX];rw [List.getElem?_append_left (zQ.1 hb).1];exact hb
  ·simp only [iX];rw [List.getElem?_append_right (by rw [gP];omega),gP];simpa using hb
 | .block _ c,lf,h=>LOk.of_tops c lf h
 | .scope c,lf,h=>LOk.of_tops c lf h
 | .loop b,lf,h=>fun F r hl=>h 0 F b (by simp [hl]) rfl
 | .skip,_,_ | .region ..,_,_ | .rangeFunc ..,_,_ | .exit _,_,_ | .label _,_,_ | .goto _,_,_ | .ret,_,_ | .refuse _,_,_=>trivial
theorem LOk.nil(c:Code):LOk P W [] c:=LOk.of_tops c [] fun i F b hF=>by simp at hF
theorem Unch.refl(s:St):Unch s s:=⟨fun _ _=> .inl rfl,fun _ _=>rfl,fun _ h=>h,fun _ h=>h,fun _ h=>h⟩
theorem Unch.trans(h:Unch s s1)(h':Unch s1 s2):Unch s s2:=by
 refine⟨fun k hk=> ?_,fun k hk=> ?_,fun k hk=>h'.log k (h.log k hk),fun k hk=>h'.logE k (h.logE k hk),fun k hk=>h'.used k (h.used k hk)⟩
 ·rcases h'.look k hk with e | e
  ·rw [e];exact h.look k fun hh=>hk (h'.log k hh)
  ·exact .inr e
 ·rw [h'.ent k hk];exact h.ent k fun hh=>hk (h'.logE k hh)
theorem ql{k:Nat}: ∀ {l:List Inf} {j:Nat} {y:Inf},l[j]? =some y→y.d.dst=some k→k∈mH l
 | [],_,_,h,_=>by simp at h
 |x::r,0,y,h,hk=>by simp at h;subst h;simp [mH,hk]
 |x::r,j + 1,y,h,hk=>by
  have:=ql (l:=r) (j:=j) (by simpa using h) hk
  simp only [mH];split <;> simp [this]
theorem qm{k:Nat}: ∀ {l:List Inf} {j:Nat} {y:Inf},l[j]? =some y→k∈iW y.d→k∈oH l
 | [],_,_,h,_=>by simp at h
 |x::r,0,y,h,hk=>by simp at h;subst h;simp only [oH,w7];exact .inl hk
 |x::r,j + 1,y,h,hk=>by
  have:=qm (l:=r) (j:=j) (by simpa using h) hk
  simp only [oH,w7];exact .inr this
theorem jU{D:Nat→Bool}: ∀ (l:List Inf) (k:Nat) (s:St),(aY D k l s).log=s.log∧(aY D k l s).logE=s.logE
 | [],_,_=>⟨rfl,rfl⟩
 |y::r,k,s=>by
  simp only [aY]
  rw [(jU r _ _).1,(jU r _ _).2]
  cases D k <;> exact⟨rfl,rfl⟩
theorem jT: ∀ (l:List Inf) (k:Nat) (s:St),aY (fun _=>false) k l s=s
 | [],_,_=>rfl
 |_::r,k,s=>jT r (k + 1) s
theorem mF(s:St)(k:Nat):s.clean.look k=s.look k∨s.clean.look k=none:=by
 simp only [St.clean]
 split
 ·rename_i v h;exact .inl h.symm
 ·exact .inr rfl
theorem sw(s:St)(id:Nat):Unch s (mG s id):=by
 unfold mG
 split
 ·split
  ·rename_i e t xs k hc he _ y ids _
   cases kf ids with
   |false=>exact Unch.refl s
   |true=>
    refine⟨fun k hk=> .inl rfl,fun k hk=> ?_,fun k hk=>hk,fun k hk=> ?_,fun k hk=>hk⟩
    ·simp only [cond_true,List.mem_cons,w7,not_or]at hk
     simp only [cond_true,ae,look?]
     cases hq:Nat.beq id k with
     |true=>exact(hk.1 (q8 hq).symm).elim
     |false=>
      simp only [cond_false]
      cases hl:look? (gS ids) k with
      |none=>rfl
      |some e=>exact(hk.2.1 (look?_gone hl).1).elim
    ·simp only [cond_true,List.mem_cons,w7];exact .inr (.inr hk)
  ·exact Unch.refl s
 ·exact Unch.refl s
theorem tE(s:St)(id:Nat):Unch s (pP s id):=by
 unfold pP
 split
 ·refine⟨fun k hk=> .inl rfl,fun k hk=> ?_,fun k hk=>hk,fun k hk=>List.mem_cons_of_mem _ hk,fun k hk=>hk⟩
  simp only [List.mem_cons,not_or]at hk
  simp only [ae,look?]
  cases hq:Nat.beq id k with
  |true=>exact(hk.1 (q8 hq).symm).elim
  |false=>rfl
 ·exact Unch.refl s
theorem kZ: ∀ (tk:Bool) (l:List Nat) (s:St),Unch s (rJ tk l s)
 |_,[],s=>Unch.refl s
 |true,id::r,s=>(tE s id).trans (kZ true r _)
 |false,id::r,s=>(sw s id).trans (kZ false r _)
theorem pb{ops:List Oper}{draw:Bool}{nd:List Bool}(h:iy P tbl W s ops draw=some (s',nd)):Unch s s':=by
 unfold iy at h
 split at h
 ·rename_i s1 l hl
  cases hb:(!draw||sI ops l)with
  |false=>simp [hb]at h
  |true=>
   simp only [hb,cond_true,w3,Prod.mk.injEq]at h
   obtain⟨h,_⟩:=h
   subst h
   obtain⟨_,hs1,_⟩:=pz ops 0 _ _ _ hl
   refine Unch.trans ?_ (kZ _ _ _)
   refine⟨fun k hk=> ?_,fun k hk=> ?_,fun k hk=> ?_,fun k hk=> ?_,fun k hk=> ?_⟩
   ·simp only [St.fin,w7,not_or]at hk
    have h1:=(jR (D:=fun _=>true) (D':=fun _=>false) (t:=k) l 0 s.clean s.clean rfl rfl fun j y hy hyd=>absurd (ql hy hyd) hk.1).1
    rw [jT]at h1
    have h2:(s1.fin ops.length l).look k=s1.clean.look k:=rfl
    rw [h2]
    rcases mF s1 k with e | e
    ·rw [e,hs1,h1];exact mF s k
    ·exact .inr e
   ·simp only [St.fin,w7,not_or]at hk
    have h1:=(fV (D:=fun _=>true) (D':=fun _=>false) (t:=k) l 0 s.clean s.clean rfl rfl fun j y hy hyd=>absurd (qm hy hyd) hk.1).1
    rw [jT]at h1
    show s1.ent k=s.ent k
    rw [hs1,h1];rfl
   ·show k∈mH l++s1.log
    rw [hs1,(jU l 0 _).1];exact w6 _ hk
   ·show k∈oH l++s1.logE
    rw [hs1,(jU l 0 _).2];exact w6 _ hk
   ·show s1.used k=true
    rw [hs1];exact kU l 0 _ hk
 ·cases h
theorem rY{b:Bool}(h1:Unch s.reset s1)(h2:Unch s.reset s2):Unch s (da b s s1 s2):=by
 refine⟨fun k hk=> ?_,fun k hk=> ?_,fun k hk=> ?_,fun k hk=> ?_,fun k hk=>(by have:=h1.used k hk;simp [da,this])⟩
 ·simp only [da,w7,not_or]at hk ⊢
  have e1:memN s1.log k=false:=by cases h:memN s1.log k with | false=>rfl | true=>exact absurd (fV.memN_mem h) hk.1
  have e2:memN s2.log k=false:=by cases h:memN s2.log k with | false=>rfl | true=>exact absurd (fV.memN_mem h) hk.2.1
  simp only [e1,e2,Bool.or_self,cond_false]
  unfold rU
  split
  ·rename_i v v' e e'
   rcases h1.look k hk.1 with q | q
   ·exact .inl (by rw [← e,q];rfl)
   ·rw [q]at e;cases e
  ·exact .inr rfl
 ·simp only [da,w7,not_or]at hk ⊢
  have e1:memN s1.logE k=false:=by cases h:memN s1.logE k with | false=>rfl | true=>exact absurd (fV.memN_mem h) hk.1
  have e2:memN s2.logE k=false:=by cases h:memN s2.logE k with | false=>rfl | true=>exact absurd (fV.memN_mem h) hk.2.1
  simp only [e1,e2,Bool.or_self,cond_false]
  rw [h1.ent k hk.1,h2.ent k hk.2.1]
  show pv (s.ent k) (s.ent k)=s.ent k
  cases s.ent k <;> rfl
 ·exact w6 _ (w6 _ hk)
 ·exact w6 _ (w6 _ hk)
theorem R.all_bind{f:St→R}(hf: ∀ s1,Unch s s1→(f s1).all fun _ s2=>Unch s1 s2): ∀ {r:R},r.all (fun _ s1=>Unch s s1)→(r.bind f).all fun _ s2=>Unch s s2
 | .none,_=>trivial
 | .done .normal s1,h=>by
  have eI: ∀ r:R,r.all (fun _ s2=>Unch s1 s2)→r.all (fun _ s2=>Unch s s2):=by
   intro r
   induction r with
   |none=>exact fun _=>trivial
   |done x s2=>exact fun h'=>h.trans h'
   |need nd r ih=>exact ih
   |ite b t e iht ihe=>exact fun h'=>⟨iht h'.1,ihe h'.2⟩
  exact eI _ (hf s1 h)
 | .done (.exit _) _,h=>h
 | .done .ret _,h=>h
 | .need _ r,h=>R.all_bind (r:=r) hf h
 | .ite _ _ _,h=>⟨R.all_bind hf h.1,R.all_bind hf h.2⟩
theorem R.all_inBlock{id:Nat}: ∀ {r:R},r.all (fun _ s1=>Unch s s1)→(r.inBlock id).all fun _ s1=>Unch s s1
 | .none,_=>trivial
 | .done _ _,h=>h
 | .need _ r,h=>R.all_inBlock (r:=r) h
 | .ite _ _ _,h=>⟨R.all_inBlock h.1,R.all_inBlock h.2⟩
theorem R.all_relog: ∀ {r:R},r.all (fun _ s1=>Unch s.reset s1)→(r.relog s).all fun _ s1=>Unch s s1
 | .none,_=>trivial
 | .done _ _,h=>⟨fun k hk=>h.look k fun hh=>hk (List.mem_append_left _ hh),fun k hk=>h.ent k fun hh=>hk (List.mem_append_left _ hh),
   fun _ hk=>w6 _ hk,fun _ hk=>w6 _ hk,h.used⟩
 | .need _ r,h=>R.all_relog (r:=r) h
 | .ite _ _ _,h=>⟨R.all_relog h.1,R.all_relog h.2⟩
theorem R.all_core{post:Ex→St→Prop}: ∀ {r:R},r.all post→r.core.all post
 | .none,h=>h
 | .done _ _,h=>h
 | .need _ r,h=>R.all_core (r:=r) h
 | .ite _ _ _,h=>h
theorem R.all_mkNeed{post:Ex→St→Prop}{nd:List Bool}{r:R}(h:r.all post):(rZ nd r).all post:=by
 cases nd <;> exact h
theorem R.sat_mkNeed{nd:List Bool}{r:R}(h:(rZ nd r).sat post):(∀ b∈nd,b=true)∧r.sat post:=by
 cases nd with
 |nil=>exact⟨by simp,h⟩
 |cons x l=>exact h
theorem R.sat_core: ∀ {r:R},(∀ b∈r.needs,b=true)→r.core.sat post→r.sat post
 | .none,_,h=>h
 | .done _ _,_,h=>h
 | .need nd r,hn,h=>⟨fun b hb=>hn b (by simp only [R.needs,w7];exact .inl hb),R.sat_core (r:=r) (fun b hb=>hn b (by simp only [R.needs,w7];exact .inr hb)) h⟩
 | .ite _ _ _,_,h=>h
theorem R.all_mkIte{b:Bool}{t e:R}(ht:t.all fun _ s1=>Unch s.reset s1)(he:e.all fun _ s1=>Unch s.reset s1):(uA b s t e).all fun _ s1=>Unch s s1:=by
 unfold uA
 refine R.all_mkNeed ?_
 replace ht:=R.all_core ht
 replace he:=R.all_core he
 generalize t.core=t at *
 generalize e.core=e at *
 unfold tU
 split
 ·rename_i s1 s2
  cases oj b s1 s2 with
  |true=>exact rY ht he
  |false=>exact⟨R.all_relog (r:= .done .normal s1) ht,R.all_relog (r:= .done .normal s2) he⟩
 ·exact⟨R.all_relog ht,R.all_relog he⟩
theorem eg: ∀ (lf:List (St→R)) (c:Code) (s:St),LOk P W lf c→(gi P tbl W lf c s).all fun _ s'=>Unch s s'
 |_,.skip,s,_=>Unch.refl s
 |_,.region _ ops draw,s,_=>by
  simp only [gi]
  split
  ·rename_i s' nd h;exact R.all_mkNeed (pb h)
  ·trivial
 |lf,.seq x y,s,hl=>R.all_bind (fun s1 _=>eg _ y s1 hl.2) (eg lf x s hl.1)
 |lf,.cond c x y,s,hl=>by
  simp only [gi]
  split
  ·cases lq x with
   |true=>exact eg _ y s hl.2
   |false=>exact R.all_mkIte (eg lf x s.reset hl.1) (eg _ y s.reset hl.2)
  ·trivial
 |lf,.block id c,s,hl=>R.all_inBlock (eg lf c s hl)
 |_,.exit id,s,_=>Unch.refl s
 |lf,.scope c,s,hl=>by simp only [gi];exact eg lf c s hl
 |_,.label _,s,_=>Unch.refl s
 |_,.ret,s,_=>Unch.refl s
 | [],.loop _,_,_=>trivial
 |F::r,.loop b,s,hl=>(hl F r rfl).un s
 |_,.rangeFunc ..,_,_=>by simp only [gi];trivial
 |_,.goto _,_,_=>by simp only [gi];trivial
 |_,.refuse _,_,_=>by simp only [gi];trivial
theorem vK{l l':List Nat}{k:Nat}(h:(memN l k||memN l' k)=false):k∉l∧k∉l':=by
 simp only [Bool.or_eq_false_iff]at h
 exact⟨iE h.1,iE h.2⟩
theorem nu{b:Bool}{x y:Option SS}{z:SS}(h:rW b x y=some z): ∃ v v' u,x=some ⟨none,v⟩∧y=some ⟨none,v'⟩∧z=⟨none,u⟩∧ew b v v'=some u:=by
 unfold rW at h
 split at h
 ·rename_i v v'
  cases hm:ew b v v' with
  |none=>simp [hm]at h
  |some u=>simp [hm]at h;subst h;exact⟨v,v',u,rfl,rfl,rfl,hm⟩
 ·cases h
theorem oO{x y:Option SS}{z:SS}(h:rU x y=some z): ∃ v v',x=some ⟨none,v⟩∧y=some ⟨none,v'⟩∧z=⟨none,v⟩:=by
 unfold rU at h
 split at h
 ·rename_i v v';cases h;exact⟨v,v',rfl,rfl,rfl⟩
 ·cases h
theorem mu{b:Bool}{x y:Option Entry}{z:Entry}(h:qn b x y=some z): ∃ e e',x=some e∧y=some e'∧fk b e (some e')=some z:=by
 unfold qn at h
 split at h
 ·exact⟨_,_,rfl,rfl,h⟩
 ·cases h
theorem nn{x y:Option Entry}{z:Entry}(h:pv x y=some z):x=some z∧ ∃ z',y=some z':=by
 unfold pv at h
 split at h
 ·rename_i u v;cases h;exact⟨rfl,v,rfl⟩
 ·cases h
theorem ke{U:Nat→Bool}{c:Bool}{a b v:SV}(hb:b.inU U)(h:ew c a b=some v):v.inU U:=by
 have hc: ∀ {x y z:Cell},y.inU U→gA c x y=some z→z.inU U:=by
  intro x y z hy h
  unfold gA at h
  split at h
  ·rename_i p q
   cases hm:jD c p q with
   |none=>simp [hm]at h
   |some u=>simp [hm]at h;subst h;trivial
  ·rename_i i o i' o'
   cases hbq:(Nat.beq i i'&&Nat.beq o o')with
   |false=>simp [hbq]at h
   |true=>
    simp [hbq]at h;subst h
    simp only [w4]at hbq
    rw [q8 hbq.1];exact hy
  ·rename_i i i'
   cases hbq:Nat.beq i i' with
   |false=>simp [hbq]at h
   |true=>
    simp [hbq]at h;subst h
    rw [q8 hbq];exact hy
  ·cases h
 have fX: ∀ {as bs vs:List Cell},(∀ x∈bs,x.inU U)→aQ c as bs=some vs→ ∀ x∈vs,x.inU U:=by
  intro as
  induction as with
  |nil=>intro bs vs _ h;cases bs <;> simp [aQ]at h;subst h;simp
  |cons a as ih=>
   intro bs vs hbs h
   cases bs with
   |nil=>simp [aQ]at h
   |cons b bs=>
    simp only [aQ]at h
    split at h
    ·rename_i x xs hx to
     cases h
     intro y hy
     rcases List.mem_cons.1 hy with rfl | hy
     ·exact hc (hbs _ (by simp)) hx
     ·exact ih (fun z hz=>hbs z (by simp [hz])) to y hy
    ·cases h
 have hv: ∀ {x y z:V1},y.inU U→fG c x y=some z→z.inU U:=by
  intro x y z hy h
  unfold fG at h
  split at h
  all_goals first
   |cases h
   |(cases hm:aQ c x.cs y.cs with
     |none=>simp [hm]at h
     |some u=>simp [hm]at h;subst h;exact fX hy hm)
 have rf: ∀ {as bs vs:List V1},(∀ x∈bs,x.inU U)→ci c as bs=some vs→ ∀ x∈vs,x.inU U:=by
  intro as
  induction as with
  |nil=>intro bs vs _ h;cases bs <;> simp [ci]at h;subst h;simp
  |cons a as ih=>
   intro bs vs hbs h
   cases bs with
   |nil=>simp [ci]at h
   |cons b bs=>
    simp only [ci]at h
    split at h
    ·rename_i x xs hx to
     cases h
     intro y hy
     rcases List.mem_cons.1 hy with rfl | hy
     ·exact hv (hbs _ (by simp)) hx
     ·exact ih (fun z hz=>hbs z (by simp [hz])) to y hy
    ·cases h
 unfold ew at h
 split at h
 ·rename_i x y
  cases hm:fG c x y with
  |none=>simp [hm]at h
  |some u=>simp [hm]at h;subst h;exact hv hb hm
 ·rename_i x y
  cases hm:ci c x y with
  |none=>simp [hm]at h
  |some u=>simp [hm]at h;subst h;exact rf hb hm
 ·cases h
theorem ph{U:Nat→Bool}{c:Bool}{as bs vs:List Cell}(hb: ∀ x∈bs,x.inU U)(hm:aQ c as bs=some vs): ∀ x∈vs,x.inU U:=
 ke (U:=U) (c:=c) (a:= .one ⟨true,as⟩) (b:= .one ⟨true,bs⟩) (v:= .one ⟨true,vs⟩) hb (by simp [ew,fG,hm])
theorem mn{used:Nat→Bool}{id:Nat}{e e2 old:Entry}(h:fk false e (some old)=some e2)(hh:old.holds B ρ w id)(ei:old.inU used):e2.holds B ρ w id∧e2.ob ρ id=old.ob ρ id∧e2.inU used:=by
 unfold fk at h
 split at h
 ·rename_i hY;cases hY
 ·rename_i own e0 t xs own' e' t' xs' hY
  cases hY
  split at h
  ·rename_i ht
   subst ht
   cases hb:(own==own'&&Nat.beq e0 e')with
   |false=>simp [hb]at h
   |true=>
    simp only [hb,cond_true]at h;cases h
    simp only [w4,beq_iff_eq]at hb
    obtain⟨rfl,h2⟩:=hb
    have:=q8 h2;subst this
    exact⟨hh,rfl,trivial⟩
  ·cases h
 ·rename_i T cs T' cs' hY
  cases hY
  cases hb:Nat.beq T T' with
  |false=>simp [hb]at h
  |true=>
   have:=q8 hb;subst this
   simp only [hb,cond_true,q9]at h
   obtain⟨ms,hm,rfl⟩:=h
   obtain⟨b,k1,k2,k3,k4⟩:=hh
   have:=(dc ρ hm).1
   simp only [cond_false]at this
   exact⟨⟨b,k1,by rw [this];exact k2,k3,k4⟩,rfl,ph ei hm⟩
 ·rename_i hY;cases hY
 ·rename_i e0 t xs e' t' xs' hY
  cases hY
  split at h
  ·rename_i ht
   subst ht
   cases hb:Nat.beq e0 e' with
   |false=>simp [hb]at h
   |true=>
    simp only [hb,cond_true]at h;cases h
    have:=q8 hb;subst this
    exact⟨hh,rfl,trivial⟩
  ·cases h
 ·rename_i e0 t xs e' t' xs' hY
  cases hY
  split at h
  ·rename_i ht
   subst ht
   cases hb:Nat.beq e0 e' with
   |false=>simp [hb]at h
   |true=>
    simp only [hb,cond_true]at h;cases h
    have:=q8 hb;subst this
    exact⟨hh,rfl,trivial⟩
  ·cases h
 ·rename_i hY;cases hY;cases h;exact⟨trivial,rfl,trivial⟩
 ·rename_i hY;cases hY
 ·cases h
theorem rX(h2:Mdl B ρ s1 a w):Mdl B ρ (da true s s1 s2) a w:=by
 have hmono: ∀ id,s1.used id=true→(da true s s1 s2).used id=true:=fun id h=>by simp [da,h]
 have look: ∀ k x,(da true s s1 s2).look k=some x→x.g=none∧a.tmps[k]? =some (x.v.conc ρ)∧x.v.inU s1.used:=by
  intro k x hx
  simp only [da]at hx
  cases hb:(memN s1.log k||memN s2.log k)with
  |true=>
   simp only [hb,cond_true]at hx
   obtain⟨v,v',u,e1,_,rfl,hm⟩:=nu hx
   refine⟨rfl,?_,oT (h2.hu k _ e1) hm⟩
   rw [h2.hs k _ e1]
   simp only [SS.at]
   rw [fB ρ hm];rfl
  |false=>
   simp only [hb,cond_false]at hx
   obtain⟨v,v',e1,_,rfl⟩:=oO hx
   exact⟨rfl,by rw [h2.hs k _ e1];rfl,h2.hu k _ e1⟩
 have ent: ∀ k e,(da true s s1 s2).ent k=some e→(∃ e0,s1.ent k=some e0∧e.ob ρ k=e0.ob ρ k)∧e.holds B ρ w k∧s1.used k=true∧e.inU s1.used:=by
  intro k e he
  simp only [da]at he
  cases hb:(memN s1.logE k||memN s2.logE k)with
  |true=>
   simp only [hb,cond_true]at he
   obtain⟨e1,e2,h3,_,hm⟩:=mu he
   obtain⟨q1,q2,q3⟩:=h2.he k _ h3
   obtain⟨g1,g2,g3⟩:=ld (used:=s1.used) hm q1 q3
   exact⟨⟨_,h3,g2⟩,g1,q2,g3⟩
  |false=>
   simp only [hb,cond_false]at he
   obtain⟨e1,_⟩:=nn he
   exact⟨⟨_,e1,rfl⟩,h2.he k _ e1⟩
 refine⟨h2.hd,h2.hn,fun k x hx=> ?_,fun k x j b hx hj=> ?_,fun k x hx=>SV.inU_mono hmono (look k x hx).2.2,⟨fun id e he=> ?_,fun id id' e e' b he he' hr hr'=> ?_,h2.hp.hf⟩,h2.hl⟩
 ·obtain⟨g0,h0,_⟩:=look k x hx
  obtain⟨g,v⟩:=x
  simp only at g0;subst g0;exact h0
 ·rw [(look k x hx).1]at hj;cases hj
 ·obtain⟨_,q1,q2,q3⟩:=ent id e he
  exact⟨q1,hmono _ q2,Entry.inU_mono hmono q3⟩
 ·obtain⟨⟨e0,h0,o0⟩,_⟩:=ent id e he
  obtain⟨⟨e1,h1,o1⟩,_⟩:=ent id' e' he'
  rw [o0]at hr;rw [o1]at hr'
  exact h2.hp.hi _ _ _ _ b h0 h1 hr hr'
theorem qP(hu1:Unch s.reset s1)(hu2:Unch s.reset s2)(h2:Mdl B ρ s2 a w):Mdl B ρ (da false s s1 s2) a w:=by
 have hmono: ∀ id,s2.used id=true→(da false s s1 s2).used id=true:=fun id h=>by simp [da,h]
 have look: ∀ k x,(da false s s1 s2).look k=some x→x.g=none∧a.tmps[k]? =some (x.v.conc ρ)∧x.v.inU s2.used:=by
  intro k x hx
  simp only [da]at hx
  cases hb:(memN s1.log k||memN s2.log k)with
  |true=>
   simp only [hb,cond_true]at hx
   obtain⟨v,v',u,_,e1,rfl,hm⟩:=nu hx
   refine⟨rfl,?_,ke (h2.hu k _ e1) hm⟩
   rw [h2.hs k _ e1]
   simp only [SS.at]
   rw [fB ρ hm];rfl
  |false=>
   simp only [hb,cond_false]at hx
   obtain⟨v,v',e1,e2,rfl⟩:=oO hx
   obtain⟨n1,n2⟩:=vK hb
   have hvv:v=v':=by
    rcases hu1.look k n1 with q | q
    ·rcases hu2.look k n2 with q' | q'
     ·rw [q]at e1;rw [q',e1]at e2;cases e2;rfl
     ·rw [q']at e2;cases e2
    ·rw [q]at e1;cases e1
   subst hvv
   exact⟨rfl,by rw [h2.hs k _ e2];rfl,h2.hu k _ e2⟩
 have ent: ∀ k e,(da false s s1 s2).ent k=some e→(∃ e0,s2.ent k=some e0∧e.ob ρ k=e0.ob ρ k)∧e.holds B ρ w k∧s2.used k=true∧e.inU s2.used:=by
  intro k e he
  simp only [da]at he
  cases hb:(memN s1.logE k||memN s2.logE k)with
  |true=>
   simp only [hb,cond_true]at he
   obtain⟨e1,e2,_,h3,hm⟩:=mu he
   obtain⟨q1,q2,q3⟩:=h2.he k _ h3
   obtain⟨g1,g2,g3⟩:=mn (used:=s2.used) hm q1 q3
   exact⟨⟨_,h3,g2⟩,g1,q2,g3⟩
  |false=>
   simp only [hb,cond_false]at he
   obtain⟨e1,e2,he2⟩:=nn he
   obtain⟨n1,n2⟩:=vK hb
   have:s2.ent k=s1.ent k:=by rw [hu1.ent k n1,hu2.ent k n2]
   rw [e1]at this
   exact⟨⟨_,this,rfl⟩,h2.he k _ this⟩
 refine⟨h2.hd,h2.hn,fun k x hx=> ?_,fun k x j b hx hj=> ?_,fun k x hx=>SV.inU_mono hmono (look k x hx).2.2,⟨fun id e he=> ?_,fun id id' e e' b he he' hr hr'=> ?_,h2.hp.hf⟩,h2.hl⟩
 ·obtain⟨g0,h0,_⟩:=look k x hx
  obtain⟨g,v⟩:=x
  simp only at g0;subst g0;exact h0
 ·rw [(look k x hx).1]at hj;cases hj
 ·obtain⟨_,q1,q2,q3⟩:=ent id e he
  exact⟨q1,hmono _ q2,Entry.inU_mono hmono q3⟩
 ·obtain⟨⟨e0,h0,o0⟩,_⟩:=ent id e he
  obtain⟨⟨e1,h1,o1⟩,_⟩:=ent id' e' he'
  rw [o0]at hr;rw [o1]at hr'
  exact h2.hp.hi _ _ _ _ b h0 h1 hr hr'
theorem Mdl.reset(h:Mdl B ρ s a w):Mdl B ρ s.reset a w:=⟨h.hd,h.hn,h.hs,h.hg,h.hu,h.hp,h.hl⟩
theorem Mdl.relog(h:Mdl B ρ s a w)(l l':List Nat):Mdl B ρ { s with log:=l,logE:=l' } a w:=⟨h.hd,h.hn,h.hs,h.hg,h.hu,h.hp,h.hl⟩
theorem R.sat_relog: ∀ {r:R},(r.relog s).sat post→r.sat (fun x s'=>post x { s' with log:=s'.log++s.log,logE:=s'.logE++s.logE })
 | .none,h=>h
 | .done _ _,h=>h
 | .need _ _,h=>⟨h.1,R.sat_relog h.2⟩
 | .ite _ _ _,h=>⟨fun hb=>R.sat_relog (h.1 hb),fun hb=>R.sat_relog (h.2 hb)⟩
theorem R.sat_and{p q:Ex→St→Prop}: ∀ {r:R},r.sat p→r.all q→r.sat fun x s=>p x s∧q x s
 | .none,h,_=>h
 | .done _ _,h,h'=>⟨h,h'⟩
 | .need _ r,h,h'=>⟨h.1,R.sat_and (r:=r) h.2 h'⟩
 | .ite _ _ _,h,h'=>⟨fun hb=>R.sat_and (h.1 hb) h'.1,fun hb=>R.sat_and (h.2 hb) h'.2⟩
theorem nX(lf:List (St→R))(c:Code)(s:St)(hl:LOk P W lf c):(gi P tbl W lf c s).all fun _ s'=> ∀ id,s.used id=true→s'.used id=true:=
 R.all_mono (fun _ _ h=>h.used) (eg lf c s hl)
theorem cJ(cq:P.follows .mixedOrders=true): ∀ (lf:List (St→R)) (c:Code) (s:St) (post:Ex→St→Prop),LOk P B.W lf c→(gi P tbl B.W lf c s).sat post→Sat P B c s post
 |_,.skip,s,post,_,h,ρ,a,w,hM=>wp_skip ⟨.normal,s,ρ,rfl,Ext.refl _ _ _,hM,h⟩
 |_,.region id ops draw,s,post,_,h,ρ,a,w,hM=>by
  simp only [gi]at h
  split at h
  ·rename_i s' nd hs'
   obtain⟨ba,h⟩:=R.sat_mkNeed h
   have:=nW (id:=id) (Q:=fun e a' w'=> ∃ x s' ρ',e=Ex.out x∧Ext B s.used ρ ρ'∧Mdl B ρ' s' a' w'∧post x s') cq hs' ba hM fun ρ' a' w' dH hM'=>⟨.normal,s',ρ',rfl,dH,hM',h⟩
   simpa using this
  ·exact h.elim
 |lf,.seq x y,s,post,hl,h,ρ,a,w,hM=>by
  have hx:=R.sat_and (R.sat_bind h) (nX (P:=P) (tbl:=tbl) (W:=B.W) lf x s hl.1)
  refine wp_seq (wp_mono (cJ cq lf x s _ hl.1 hx ρ a w hM) fun e a' w' ⟨q,s',ρ',he,dH,hM',hp,hus⟩=> ?_)
  subst he
  cases q with
  |normal=>
   refine wp_mono (cJ cq _ y s' post hl.2 hp ρ' a' w' hM') fun e a'' w'' ⟨q,s'',ρ'',he,hag',hM'',hp'⟩=> ?_
   exact⟨q,s'',ρ'',he,dH.trans hag' hus,hM'',hp'⟩
  |exit id=>exact⟨.exit id,s',ρ',rfl,dH,hM',hp⟩
  |ret=>exact⟨.ret,s',ρ',rfl,dH,hM',hp⟩
 |lf,.cond c x y,s,post,hl,h,ρ,a,w,hM=>by
  simp only [gi]at h
  split at h
  ·rename_i b hb
   have hc:a.eval c= .bool b:=pt hM (fun _ _ h=>h) (by simp) hb
   cases hpn:lq x with
   |true=>
    simp only [hpn,cond_true]at h
    obtain⟨hb0,h⟩:=h
    have hb0:=hb0 (!b) (by simp)
    refine wp_cond hc ?_
    cases b with
    |true=>cases hb0
    |false=>exact cJ cq _ y s post hl.2 h ρ a w hM
   |false=>
   simp only [hpn,cond_false]at h
   have hx:=eg (P:=P) (tbl:=tbl) (W:=B.W) lf x s.reset hl.1
   have hy:=eg (P:=P) (tbl:=tbl) (W:=B.W) _ y s.reset hl.2
   unfold uA at h
   obtain⟨ba,h⟩:=R.sat_mkNeed h
   have hn1:b=true→ ∀ n∈(gi P tbl B.W lf x s.reset).needs,n=true:=fun hbt n hn=>by
    have:=ba (!b||n) (by simp only [w7];exact .inl (List.mem_map_of_mem hn))
    simpa [hbt] using this
   have hn2:b=false→ ∀ n∈(gi P tbl B.W (lf.drop (nl x)) y s.reset).needs,n=true:=fun hbt n hn=>by
    have:=ba (b||n) (by simp only [w7];exact .inr (List.mem_map_of_mem hn))
    simpa [hbt] using this
   replace hx:=R.all_core hx
   replace hy:=R.all_core hy
   unfold tU at h
   split at h
   ·rename_i s1 s2 e1 e2
    rw [e1]at hx;rw [e2]at hy
    cases hm:oj b s1 s2 with
    |true=>
     simp only [hm,cond_true]at h
     refine wp_cond hc ?_
     cases b with
     |true=>
      refine wp_mono (cJ cq lf x s.reset (fun q s'=>q= .normal∧s'=s1) hl.1 (R.sat_core (hn1 rfl) (by rw [e1];exact⟨rfl,rfl⟩)) ρ a w hM.reset) fun e a' w' ⟨q,s',ρ',he,dH,hM',hq,hs'⟩=> ?_
      subst hq;subst hs'
      exact⟨.normal,_,ρ',he,dH,rX hM',h⟩
     |false=>
      refine wp_mono (cJ cq _ y s.reset (fun q s'=>q= .normal∧s'=s2) hl.2 (R.sat_core (hn2 rfl) (by rw [e2];exact⟨rfl,rfl⟩)) ρ a w hM.reset) fun e a' w' ⟨q,s',ρ',he,dH,hM',hq,hs'⟩=> ?_
      subst hq;subst hs'
      exact⟨.normal,_,ρ',he,dH,qP hx hy hM',h⟩
    |false=>
     simp only [hm,cond_false]at h
     rw [← e1,← e2]at h
     refine wp_cond hc ?_
     cases b with
     |true=>
      refine wp_mono (cJ cq lf x s.reset _ hl.1 (R.sat_core (hn1 rfl) (R.sat_relog (h.1 rfl))) ρ a w hM.reset) fun e a' w' ⟨q,s',ρ',he,dH,hM',hp⟩=> ?_
      exact⟨q,_,ρ',he,dH,hM'.relog _ _,hp⟩
     |false=>
      refine wp_mono (cJ cq _ y s.reset _ hl.2 (R.sat_core (hn2 rfl) (R.sat_relog (h.2 rfl))) ρ a w hM.reset) fun e a' w' ⟨q,s',ρ',he,dH,hM',hp⟩=> ?_
      exact⟨q,_,ρ',he,dH,hM'.relog _ _,hp⟩
   ·refine wp_cond hc ?_
    cases b with
    |true=>
     refine wp_mono (cJ cq lf x s.reset _ hl.1 (R.sat_core (hn1 rfl) (R.sat_relog (h.1 rfl))) ρ a w hM.reset) fun e a' w' ⟨q,s',ρ',he,dH,hM',hp⟩=> ?_
     exact⟨q,_,ρ',he,dH,hM'.relog _ _,hp⟩
    |false=>
     refine wp_mono (cJ cq _ y s.reset _ hl.2 (R.sat_core (hn2 rfl) (R.sat_relog (h.2 rfl))) ρ a w hM.reset) fun e a' w' ⟨q,s',ρ',he,dH,hM',hp⟩=> ?_
     exact⟨q,_,ρ',he,dH,hM'.relog _ _,hp⟩
  ·exact h.elim
 |lf,.block id c,s,post,hl,h,ρ,a,w,hM=>by
  refine wp_block (wp_mono (cJ cq lf c s _ hl (R.sat_inBlock h) ρ a w hM) fun e a' w' ⟨q,s',ρ',he,dH,hM',hp⟩=> ?_)
  subst he
  cases q with
  |normal=>exact⟨.normal,s',ρ',rfl,dH,hM',hp⟩
  |ret=>exact⟨.ret,s',ρ',rfl,dH,hM',hp⟩
  |exit k=>
   simp only [Ex.out,Exit.inBlock]
   simp only [Ex.inBlock]at hp
   cases hk:Nat.beq k id with
   |true=>
    have:=q8 hk;subst this
    simp only [hk,cond_true]at hp
    simp only [if_true];exact⟨.normal,s',ρ',rfl,dH,hM',hp⟩
   |false=>
    have ij:k≠id:=fun e=>by subst e;simp at hk
    simp only [hk,cond_false]at hp
    simp only [ij,if_false];exact⟨.exit k,s',ρ',rfl,dH,hM',hp⟩
 |_,.exit id,s,post,_,h,ρ,a,w,hM=>wp_exit ⟨.exit id,s,ρ,rfl,Ext.refl _ _ _,hM,h⟩
 |lf,.scope c,s,post,hl,h,ρ,a,w,hM=>by
  simp only [gi]at h
  refine wp_scope_straight (wp_mono (cJ cq lf c s post hl h ρ a w hM) fun e a' w' hh=> ?_)
  obtain⟨q,s',ρ',he,dH,hM',hp⟩:=hh
  subst he
  cases q <;> exact⟨_,s',ρ',rfl,dH,hM',hp⟩
 |_,.label _,s,post,_,h,ρ,a,w,hM=>wp_label ⟨.normal,s,ρ,rfl,Ext.refl _ _ _,hM,h⟩
 |_,.ret,s,post,_,h,ρ,a,w,hM=>wp_ret ⟨.ret,s,ρ,rfl,Ext.refl _ _ _,hM,h⟩
 | [],.loop _,s,post,_,h,_,_,_,_=>by simp only [gi]at h;exact h.elim
 |F::r,.loop b,s,post,hl,h,ρ,a,w,hM=>(hl F r rfl).ok B s post rfl (by simpa only [gi] using h) ρ a w hM
 |_,.rangeFunc ..,s,post,_,h,_,_,_,_=>by simp only [gi]at h;exact h.elim
 |_,.goto _,s,post,_,h,_,_,_,_=>by simp only [gi]at h;exact h.elim
 |_,.refuse _,s,post,_,h,_,_,_,_=>by simp only [gi]at h;exact h.elim
end
end Go.SX
namespace Go.SX
open Go.RowKit
def init(args:List SV)(es:List Entry):St:=
 {look:=fun k=>match args[k]? with | some v=>some ⟨none,v⟩ | none=>none
  ent:=fun i=>es[i]?,used:=fun i=>Nat.blt i es.length,wr:=fun _=>false,next:=es.length + 1,log:= [],logE:= [] }
def ud(P:Program)(s:St):List ResultVar→Option (List V1)
 | []=>some []
 | .tmp t::r=>match s.look t with
  |some ⟨none,.one v⟩=>match ud P s r with
   |some l=>some (v::l)
   |none=>none
  |_=>none
 | .cell a T::r=>match s.look a with
  |some ⟨none,.one ⟨false,[.ptr id off]⟩⟩=>match s.ent id with
   |some (.box _ cs)=>match li P T off cs,ud P s r with
    |some v,some l=>some (v::l)
    |_,_=>none
   |_=>none
  |_=>none
def wJ:List V1→SV
 | [v]=> .one v
 |l=> .tup l
def qA(P:Program)(fn:Func)(s:St):Option SV:=
 match ud P s fn.results.toList with
 |some l=>some (wJ l)
 |none=>none
def eqN:List Nat→List Nat→Bool
 | [],[]=>true
 |a::l,b::r=>Nat.beq a b&&eqN l r
 |_,_=>false
def nq(s:St)(m:Nat)(v:SV)(L:List Nat):Option Out:=
 match v.ren (iI L),bP (sW s.ent L) L with
 |some u,some es=>bif lm L&&eqN (L.take m) (ac 0 m)then some ⟨u,es.take m,es.drop m,[]⟩else none
 |_,_=>none
def rV(P:Program)(fn:Func)(m:Nat)(s:St):Option Out:=
 match qA P fn s with
 |some v=>nq s m v (gX s.ent 4 (mi (ac 0 m) v.ids))
 |none=>none
def dJ(b:Bool):List Entry→List Entry→Option (List Entry)
 | [],[]=>some []
 |e::r,e'::r'=>match fk b e (some e'),dJ b r r' with
  |some x,some xs=>some (x::xs)
  |_,_=>none
 |_,_=>none
def jC(b:Bool)(x y:Out):Option Out:=
 match ew b x.res y.res,dJ b x.es y.es,dJ b x.new y.new with
 |some v,some es,some nw=>some ⟨v,es,nw,x.nd.map (fun n=> !b||n)++y.nd.map (fun n=>b||n)⟩
 |_,_,_=>none
def vd(nd:List Bool):Option Out→Option Out
 |some o=>some ⟨o.res,o.es,o.new,nd++o.nd⟩
 |none=>none
def vl(ent:Nat→Option Entry)(used:Nat→Bool)(b k j:Nat):Option ((Nat→Option Entry)×(Nat→Bool)):=
 match ent b with
 |some (.box T cs)=>match cs[k]? with
  |some (.ref i)=>bif used j then none else match ent i with
   |some (.row true e t xs)=>some (ae (ae ent [(j,.row true e t xs),(i,.gone)]) [(b,.box T (cs.set k (.ref j)))],ag used [j])
   |some (.row false e t xs)=>some (ae (ae ent [(j,.row false e t xs)]) [(b,.box T (cs.set k (.ref j)))],ag used [j])
   |some (.tree e t xs none)=>some (ae (ae ent ((j,.tree e t xs none)::gS [i])) [(b,.box T (cs.set k (.ref j)))],ag used [j])
   |_=>none
  |_=>none
 |_=>none
def pN:List (Nat×Nat)→Nat→(Nat→Option Entry)→(Nat→Bool)→Option ((Nat→Option Entry)×(Nat→Bool))
 | [],_,ent,used=>some (ent,used)
 |p::r,j,ent,used=>match vl ent used p.1 p.2 j with
  |some (e,u)=>pN r (j + 1) e u
  |none=>none
def uF(m b:Nat):Nat→List Cell→List (Nat×Nat)
 |_,[]=> []
 |k,.ref i::r=>bif Nat.blt i m then(b,k)::uF m b (k + 1) r else uF m b (k + 1) r
 |k,_::r=>uF m b (k + 1) r
def ua(ent:Nat→Option Entry)(m:Nat):List Nat→List (Nat×Nat)
 | []=> []
 |b::r=>match ent b with
  |some (.box _ cs)=>uF m b 0 cs++ua ent m r
  |_=>ua ent m r
def pL:List Cell→List Nat
 | []=> []
 | .ref i::r=>i::pL r
 |_::r=>pL r
def iZ(ent:Nat→Option Entry):List Nat→List Nat
 | []=> []
 |b::r=>match ent b with
  |some (.box _ cs)=>pL cs++iZ ent r
  |_=>iZ ent r
def ww(es:List Entry):List Nat:=
 (iZ (fun i=>es[i]?) (ac 0 es.length)).filter fun i=>match es[i]? with | some (.row true _ _ _)=>true | some (.tree _ _ _ none)=>true | _=>false
def nf(G:List Nat)(ent:Nat→Option Entry):Nat→Option Entry:=fun i=>bif memN G i then(match ent i with | some _=>some .gone | none=>none)else ent i
def su(m:Nat)(G:List Nat)(fz:Bool)(l:List Nat)(s:St):Option St:=
 match pN (ua s.ent m (ac 0 m)) ((s.next + 9) * 64) (bif fz then ae s.ent (frz s.ent (iZ s.ent (ac 0 m)++l))else s.ent) s.used with
 |some (e,u)=>some { s with ent:=nf G e,used:=u }
 |none=>none
def jz(P:Program)(fn:Func)(m:Nat)(G:List Nat)(fz:Bool)(fr:Nat)(s:St):Option Out:=
 match qA P fn s with
 |some v=>bif v.inUb s.used then match su m G fz (v.ids.take fr) s with
   |some s'=>nq s' m v (gX s'.ent 4 (mi (ac 0 m) v.ids))
   |none=>none
  else none
 |none=>none
def wv(ent:Nat→Option Entry)(m:Nat):List Nat:=(ac 0 m).filter fun i=>match ent i with | some (.row true _ _ _)=>true | _=>false
def mkM(i:Nat):Option Value→SV
 |none=> .one ⟨false,[.ref i]⟩
 |some v=> .tup [⟨false,[.ref i]⟩,⟨false,[.val v]⟩]
def slM:SV→Option (Nat×Option Value)
 | .one ⟨false,[.ref i]⟩=>some (i,none)
 | .tup [⟨false,[.ref i]⟩,⟨false,[.val v]⟩]=>some (i,some v)
 |_=>none
def qd(P:Program)(fn:Func)(m:Nat)(G:List Nat)(s:St):Option Out:=
 match qA P fn s with
 |some r=>match slM r with
  |some (i,y)=>bif(mkM i y).inUb s.used then match su m G false [] s with
   |some s'=>match s'.ent i with
    |some (.row true e t xs)=>bif Nat.blt i m then
      bif s'.used ((s.next + 20) * 64)|| !(ac 0 m).all s'.used then none else
      nq { s' with ent:=nf (wv s'.ent m) (ae s'.ent [((s.next + 20) * 64,.row true e t xs),(i,.gone)]),used:=ag s'.used [(s.next + 20) * 64] } m (mkM ((s.next + 20) * 64) y)
       (gX (nf (wv s'.ent m) (ae s'.ent [((s.next + 20) * 64,.row true e t xs),(i,.gone)])) 4 (mi (ac 0 m) [(s.next + 20) * 64]))
     else nq { s' with ent:=nf (wv s'.ent m) s'.ent } m (mkM i y) (gX (nf (wv s'.ent m) s'.ent) 4 (mi (ac 0 m) [i]))
    |_=>none
   |none=>none
  else none
  |none=>none
 |none=>none
def qc(P:Program)(fn:Func)(m:Nat)(G:List Nat)(s:St):Option Out:=
 match qA P fn s with
 |some (.one ⟨false,[.ref i]⟩)=>bif(SV.one ⟨false,[.ref i]⟩).inUb s.used then match su m G true [i] s with
   |some s'=>match s'.ent i with
    |some (.row false e t xs)=>bif Nat.blt i m then
      bif s'.used ((s.next + 20) * 64)|| !(ac 0 m).all s'.used then none else
      nq { s' with ent:=ae s'.ent [((s.next + 20) * 64,.row false e t xs)],used:=ag s'.used [(s.next + 20) * 64] } m (.one ⟨false,[.ref ((s.next + 20) * 64)]⟩)
       (gX (ae s'.ent [((s.next + 20) * 64,.row false e t xs)]) 4 (mi (ac 0 m) [(s.next + 20) * 64]))
     else nq s' m (.one ⟨false,[.ref i]⟩) (gX s'.ent 4 (mi (ac 0 m) [i]))
    |_=>none
   |none=>none
  else none
 |_=>none
def fnJ(j:Nat):Cell→Cell
 | .val .nilFunc=> .ref j
 |c=>c
def V1.fnJ(j:Nat)(v:V1):V1:=⟨v.agg,v.cs.map (SX.fnJ j)⟩
def SV.fnJ(j:Nat):SV→SV
 | .one v=> .one (v.fnJ j)
 | .tup l=> .tup (l.map (V1.fnJ j))
def qe(P:Program)(fn:Func)(m:Nat)(s:St):Option Out:=
 match qA P fn s with
 |some v=>bif s.used ((s.next + 30) * 64)|| !(v.inUb s.used)then none else
   nq { s with ent:=ae s.ent [((s.next + 30) * 64,.gone)],used:=ag s.used [(s.next + 30) * 64] } m (v.fnJ ((s.next + 30) * 64))
    (gX (ae s.ent [((s.next + 30) * 64,.gone)]) 4 (mi (ac 0 m) (v.fnJ ((s.next + 30) * 64)).ids))
 |none=>none
def R.outB(lo:St→Option Out):R→Option Out
 | .none=>Option.none
 | .done .normal s=>lo s
 | .done .ret s=>lo s
 | .done (.exit _) _=>Option.none
 | .need nd r=>vd nd (r.outB lo)
 | .ite b t e=>match t.outB lo,e.outB lo with
  |some x,some y=>jC b x y
  |_,_=>Option.none
def R.outAny(P:Program)(fn:Func)(m:Nat)(G:List Nat)(r:R):Option Out:=
 match r.outB (rV P fn m)with
 |some o=>some o
 |Option.none=>match r.outB (jz P fn m G false 0)with
  |some o=>some o
  |Option.none=>match r.outB (jz P fn m G true 0)with
   |some o=>some o
   |Option.none=>match r.outB (qd P fn m G)with
    |some o=>some o
    |Option.none=>match r.outB (jz P fn m G true 1000)with
     |some o=>some o
     |Option.none=>match r.outB (qc P fn m G)with
      |some o=>some o
      |Option.none=>r.outB (qe P fn m)
def PF.firsts{P:Program}:List (PF P)→Bool
 |p::_=>Nat.beq p.k 999993
 | []=>false
def PF.first(P:Program):PF P where
 k:=999993
 F:=fun _ _=>none
 ok:=fun _ _ _ h=>by cases h
def R.outF(P:Program)(fn:Func)(m:Nat)(G:List Nat)(fs:Bool)(r:R):Option Out:=
 match fs with
 |true=>r.outB (jz P fn m G true 1)
 |false=>r.outAny P fn m G
def ur(P:Program)(tbl:List (PF P))(lf:List (St→R))(fn:Func)(args:List SV)(es:List Entry):Option Out:=
 match fn.body with
 |some c=>bif args.all (SV.inUb fun i=>Nat.blt i es.length)&&Nat.ble args.length fn.ntmps then(gi P tbl (fun k=>Nat.blt k fn.ntmps) lf c (init args es)).outF P fn es.length (ww es) (PF.firsts tbl)else none
 |none=>none
section
variable{P:Program}{tbl:List (PF P)}{s:St}{B:Base}{ρ:Nm}{a:Act}{w:World}{fn:Func}
theorem tW(ρ:Nm)(l:List V1):(wJ l).conc ρ=(if h:(l.map (V1.conc ρ)).toArray.size=1 then(l.map (V1.conc ρ)).toArray[0]else .tuple (l.map (V1.conc ρ)).toArray):=by
 match l with
 | []=>rfl
 | [v]=>rfl
 |_::_::_=>rfl
def nC(tmps:Array Value):ResultVar→Sem Value
 | .tmp t=>pure (tmps.getD t undef)
 | .cell p T=>do loadVar T (← asAddr (tmps.getD p undef))
theorem ue(fn:Func)(tmps:Array Value):results fn tmps=(do
  let vs ← fn.results.mapM (nC tmps)
  pure (if h:vs.size=1 then vs[0]else .tuple vs)):=by
 unfold results nC
 rfl
theorem qz(hM:Mdl B ρ s a w): ∀ {l:List ResultVar} {vs:List V1},ud P s l=some vs→
  (l.mapM (nC a.tmps)).run P w= .ok (vs.map (V1.conc ρ)) w
 | [],vs,h=>by simp [ud]at h;subst h;simp
 | .tmp t::r,vs,h=>by
  simp only [ud]at h
  split at h
  ·rename_i v hv
   split at h
   ·rename_i l hl
    cases h
    have hs:=hM.hs _ _ hv
    simp only [SS.at,SV.conc]at hs
    have:=qz hM hl
    simp [List.mapM_cons,nC,hs,this]
   ·cases h
  ·cases h
 | .cell p T::r,vs,h=>by
  simp only [ud]at h
  split at h
  ·rename_i id off hp
   split at h
   ·rename_i U cs he
    split at h
    ·rename_i v l hv hl
     cases h
     have hs:=hM.hs _ _ hp
     simp only [SS.at,SV.conc,V1.conc,nB]at hs
     have:=qz hM hl
     obtain⟨b,h1,h2,_⟩:=(hM.he _ _ he).1
     have hr:=lU (P:=P) (ρ:=ρ) (base:=0) (b:=b) (w:=w) hv fun j u hj=>by
      rw [Nat.zero_add,cQ h2];simpa using hj
     rw [Nat.zero_add]at hr
     rw [h1]at hs
     simp only [gu]at hs
     simp [List.mapM_cons,nC,hs,asAddr,hr,this]
    ·cases h
   ·cases h
  ·cases h
theorem gZ(hM:Mdl B ρ s a w){v:SV}(h:qA P fn s=some v):(results fn a.tmps).run P w= .ok (v.conc ρ) w:=by
 unfold qA at h
 split at h
 ·rename_i l hl
  cases h
  have:=qz hM hl
  rw [tW,ue,Array.mapM_eq_mapM_toList]
  simp only [Sem.run_bind,Sem.run_map,this,Result.andThen_ok,Sem.run_pure]
 ·cases h
theorem wx(hp:Hp B ρ s.ent s.used w){L:List Nat}(hn:L.Nodup){es:List Entry}(pd:bP (sW s.ent L) L=some es):HpL B.w0 B.mem es (subNm ρ L) w:=by
 have bj:=(ec pd).1
 have hpos: ∀ i j,(fun _:Nat=>true) i=true→iI L i=some j→subNm ρ L j=ρ i:=fun i j _ h=>bn (dD h)
 have hE: ∀ id e,s.ent id=some e→s.ent id=some e:=fun _ _ h=>h
 have pu: ∀ j e' i e,L[j]? =some i→s.ent i=some e→e.ren (iI L)=some e'→ ∀ b,b∈e'.ob (subNm ρ L) j→b∈e.ob ρ i:=by
  intro j e' i e h1 h2 h3 b hb
  cases e with
  |box T cs=>simp only [Entry.ren,q9]at h3;obtain⟨cs',_,rfl⟩:=h3;simp only [Entry.ob,bn h1]at hb ⊢;exact hb
  |row own e t xs=>simp only [Entry.ren,w3]at h3;subst h3;rw [oy (bn h1)]at hb;exact hb
  |tree e t xs ho=>rw [(iV (B':=B) (ρ':=subNm ρ L) (id':=j) (U:=fun _=>true) (hp.he _ _ h2).1 h3 (bn h1) (nI h1) (fun b hb=>(Entry.ob_lt (hp.he _ _ h2).1 hb).2) (Entry.inU_mono (fun _ _=>rfl) (hp.he _ _ h2).2.2) hpos).2]at hb;exact hb
  |wk e t xs=>simp only [Entry.ren,w3]at h3;subst h3;simp only [Entry.ob,bn h1]at hb ⊢;exact hb
  |gone=>simp only [Entry.ren,w3]at h3;subst h3;exact hb
 refine⟨fun j e' he'=> ?_,fun j j' e e' b he he' hb hb'=> ?_,hp.hf.os,hp.hf.tape,hp.hf.output,hp.hf.size,hp.hf.mem,hp.hf.dat,hp.hf.gl⟩
 ·obtain⟨i,e,h1,h2,h3⟩:=gY hE pd he'
  have bI:j < es.length:=(zQ.1 he').1
  obtain⟨g1,g2,g3⟩:=hp.he i e h2
  have hU: ∀ i j,iI L i=some j→Nat.blt j es.length=true:=fun i j h=>by
   have:=(zQ.1 (dD h)).1
   simp only [Nat.blt,Nat.ble_eq];omega
  refine⟨?_,by simp only [Nat.blt,Nat.ble_eq];omega,?_⟩
  ·cases e with
   |box T cs=>
    simp only [Entry.ren,q9]at h3
    obtain⟨cs',fX,rfl⟩:=h3
    obtain⟨b,k1,k2,k3,k4⟩:=g1
    refine⟨b,by rw [bn h1];exact k1,?_,k3,k4⟩
    rw [ee fX fun x hx y hy=>Cell.ren_conc (U:=fun _=>true) hpos (by cases x <;> simp [Cell.inU]) hy]
    exact k2
   |row own e0 t xs=>
    simp only [Entry.ren,w3]at h3;subst h3
    cases own with
    |false=>simp only [Entry.holds];rw [bn h1];exact g1
    |true=>
     obtain⟨cs,k1,k2,k3⟩:=g1
     simp only [Entry.holds];rw [bn h1]
     exact⟨cs,k1,k2,k3⟩
   |tree e0 t xs ho=>exact(iV (ρ':=subNm ρ L) (id':=j) (U:=fun _=>true) g1 h3 (bn h1) (nI h1) (fun b hb=>(Entry.ob_lt g1 hb).2) (Entry.inU_mono (fun _ _=>rfl) g3) hpos).1
   |wk e0 t xs=>
    simp only [Entry.ren,w3]at h3;subst h3
    simp only [Entry.holds];rw [bn h1];exact g1
   |gone=>simp only [Entry.ren,w3]at h3;subst h3;trivial
  ·cases e with
   |box T cs=>
    simp only [Entry.ren,q9]at h3
    obtain⟨cs',fX,rfl⟩:=h3
    exact di fX fun x _ y hy=>Cell.ren_inU hU hy
   |row own e0 t xs=>simp only [Entry.ren,w3]at h3;subst h3;trivial
   |tree e0 t xs ho=>exact km h3 hU
   |wk e0 t xs=>simp only [Entry.ren,w3]at h3;subst h3;trivial
   |gone=>simp only [Entry.ren,w3]at h3;subst h3;trivial
 ·obtain⟨i,e1,h1,h2,h3⟩:=gY hE pd he
  obtain⟨i',e1',h1',h2',h3'⟩:=gY hE pd he'
  have:=hp.hi i i' e1 e1' b h2 h2' (pu j e i e1 h1 h2 h3 b hb) (pu j' e' i' e1' h1' h2' h3' b hb')
  subst this
  exact om hn h1 h1'
structure OutLe (o o':Out):Prop where
 len:o.es.length=o'.es.length
 hp: ∀ w0 mem ρ w,HpL w0 mem (o'.es++o'.new) ρ w→HpL w0 mem (o.es++o.new) ρ w
 res: ∀ ρ,o.res.conc ρ=o'.res.conc ρ
 inU:o'.res.inU (fun i=>Nat.blt i (o'.es++o'.new).length)→o.res.inU (fun i=>Nat.blt i (o.es++o.new).length)
theorem gV{b:Bool}: ∀ {x y z:List Entry},dJ b x y=some z→z.length=x.length∧z.length=y.length∧ ∀ (i:Nat) e,z[i]? =some e→ ∃ e1 e2,x[i]? =some e1∧y[i]? =some e2∧fk b e1 (some e2)=some e
 | [],[],z,h=>by simp [dJ]at h;subst h;exact⟨rfl,rfl,fun i e he=>by simp at he⟩
 | [],_::_,z,h=>by simp [dJ]at h
 |_::_,[],z,h=>by simp [dJ]at h
 |p::x,q::y,z,h=>by
  simp only [dJ]at h
  split at h
  ·rename_i e es h1 h2
   cases h
   obtain⟨l1,l2,g⟩:=gV h2
   refine⟨by simp [l1],by simp [l2],fun i e' he=> ?_⟩
   cases i with
   |zero=>simp at he;subst he;exact⟨p,q,rfl,rfl,h1⟩
   |succ i=>simp at he;simpa using g i e' he
  ·cases h
theorem iF{b:Bool}: ∀ {x y z x' y' z':List Entry},dJ b x y=some z→dJ b x' y'=some z'→dJ b (x++x') (y++y')=some (z++z')
 | [],[],z,_,_,_,h,h'=>by simp [dJ]at h;subst h;exact h'
 | [],_::_,z,_,_,_,h,_=>by simp [dJ]at h
 |_::_,[],z,_,_,_,h,_=>by simp [dJ]at h
 |p::x,q::y,z,x',y',z',h,h'=>by
  simp only [dJ]at h
  split at h
  ·rename_i e es h1 h2
   cases h
   simp only [List.cons_append,dJ,h1,iF h2 h']
  ·cases h
theorem qO{x y z:Out}(h:jC true x y=some z):OutLe z x:=by
 unfold jC at h
 split at h
 ·rename_i v es nw h1 h2 h3
  cases h
  have h4:=iF h2 h3
  obtain⟨l1,_,g⟩:=gV h4
  refine⟨(gV h2).1,fun w0 mem ρ w hp=> ?_,fun ρ=>by rw [fB ρ h1];rfl,fun ei=>by rw [l1];exact oT ei h1⟩
  unfold HpL
  rw [l1]
  refine hp.swap fun id e he=> ?_
  obtain⟨e1,e2,k1,k2,k3⟩:=g id e he
  obtain⟨q1,q2,q3⟩:=hp.he id e1 k1
  obtain⟨r1,r2,r3⟩:=ld (used:=fun i=>Nat.blt i (x.es++x.new).length) k3 q1 q3
  exact⟨e1,k1,r1,r2,r3⟩
 ·cases h
theorem qo{x y z:Out}(h:jC false x y=some z):OutLe z y:=by
 unfold jC at h
 split at h
 ·rename_i v es nw h1 h2 h3
  cases h
  have h4:=iF h2 h3
  obtain⟨_,l2,g⟩:=gV h4
  refine⟨(gV h2).2.1,fun w0 mem ρ w hp=> ?_,fun ρ=>by rw [fB ρ h1];rfl,fun ei=>by rw [l2];exact ke ei h1⟩
  unfold HpL
  rw [l2]
  refine hp.swap fun id e he=> ?_
  obtain⟨e1,e2,k1,k2,k3⟩:=g id e he
  obtain⟨q1,q2,q3⟩:=hp.he id e2 k2
  obtain⟨r1,r2,r3⟩:=mn (used:=fun i=>Nat.blt i (y.es++y.new).length) k3 q1 q3
  exact⟨e2,k2,r1,r2,r3⟩
 ·cases h
theorem OutLe.refl(o:Out):OutLe o o:=⟨rfl,fun _ _ _ _ h=>h,fun _=>rfl,fun h=>h⟩
theorem OutLe.trans{o o' o'':Out}(h:OutLe o o')(h':OutLe o' o''):OutLe o o'':=
 ⟨h.len.trans h'.len,fun w0 mem ρ w hp=>h.hp w0 mem ρ w (h'.hp w0 mem ρ w hp),fun ρ=>(h.res ρ).trans (h'.res ρ),fun ei=>h.inU (h'.inU ei)⟩
theorem py{lo:St→Option Out}: ∀ {r:R} {o:Out},r.outB lo=some o→(∀ b∈o.nd,b=true)→r.sat fun x s=>(x= .normal∨x= .ret)∧ ∃ o',lo s=some o'∧OutLe o o'
 | .none,_,h,_=>by cases h
 | .done .normal s,o,h,_=>⟨.inl rfl,o,h,OutLe.refl o⟩
 | .done .ret s,o,h,_=>⟨.inr rfl,o,h,OutLe.refl o⟩
 | .done (.exit _) _,_,h,_=>by cases h
 | .need l r,o,h,hn=>by
  simp only [R.outB]at h
  cases ho:r.outB lo with
  |none=>simp [ho,vd]at h
  |some o1=>
   simp only [ho,vd,w3]at h
   subst h
   refine⟨fun b hb=>hn b (by simp [hb]),?_⟩
   exact R.sat_mono (fun q s ⟨h1,o',h2,h3⟩=>⟨h1,o',h2,⟨h3.len,h3.hp,h3.res,h3.inU⟩⟩) (py ho fun b hb=>hn b (by simp [hb]))
 | .ite b t e,o,h,hn=>by
  simp only [R.outB]at h
  split at h
  ·rename_i x y hx hy
   have ba:o.nd=x.nd.map (fun n=> !b||n)++y.nd.map (fun n=>b||n):=by
    unfold jC at h
    split at h
    ·cases h;rfl
    ·cases h
   rw [ba]at hn
   refine⟨fun hb=> ?_,fun hb=> ?_⟩
   ·subst hb
    have hl: ∀ n∈x.nd,n=true:=fun n hn'=>by
     have:=hn (!true||n) (by simp only [w7];exact .inl (List.mem_map_of_mem hn'))
     simpa using this
    exact R.sat_mono (fun q s ⟨h1,o',h2,h3⟩=>⟨h1,o',h2,(qO h).trans h3⟩) (py hx hl)
   ·subst hb
    have hl: ∀ n∈y.nd,n=true:=fun n hn'=>by
     have:=hn (false||n) (by simp only [w7];exact .inr (List.mem_map_of_mem hn'))
     simpa using this
    exact R.sat_mono (fun q s ⟨h1,o',h2,h3⟩=>⟨h1,o',h2,(qo h).trans h3⟩) (py hy hl)
  ·cases h
theorem V1.ren_inU{f:Nat→Option Nat}{U:Nat→Bool}(hf: ∀ i j,f i=some j→U j=true){v u:V1}(h:v.ren f=some u):u.inU U:=by
 simp only [V1.ren,q9]at h
 obtain⟨cs,fX,rfl⟩:=h
 exact di fX fun x _ y hy=>Cell.ren_inU hf hy
theorem SV.ren_inU{f:Nat→Option Nat}{U:Nat→Bool}(hf: ∀ i j,f i=some j→U j=true){v u:SV}(h:v.ren f=some u):u.inU U:=by
 cases v with
 |one v=>
  simp only [SV.ren,q9]at h
  obtain⟨u',hu,rfl⟩:=h
  exact V1.ren_inU hf hu
 |tup vs=>
  simp only [SV.ren,q9]at h
  obtain⟨us,hu,rfl⟩:=h
  exact di hu fun x _ y hy=>V1.ren_inU hf hy
theorem vu: ∀ {l r:List Nat},eqN l r=true→l=r
 | [],[],_=>rfl
 | [],_::_,h=>by simp [eqN]at h
 |_::_,[],h=>by simp [eqN]at h
 |a::l,b::r,h=>by
  simp only [eqN,w4]at h
  rw [q8 h.1,vu h.2]
theorem eH: ∀ {k n j:Nat},j < k→(ac n k)[j]? =some (n + j)
 |0,_,_,h=>by omega
 |k + 1,n,0,_=>by simp [ac]
 |k + 1,n,j + 1,h=>by
  simp only [ac,List.getElem?_cons_succ];rw [eH (by omega)];congr 1;omega
theorem iz: ∀ (k n:Nat),(ac n k).length=k
 |0,_=>rfl
 |k + 1,n=>by simp [ac,iz k]
def uq(n:Nat)(w:World)(mem:Nat→Option Obj):Base:=⟨n,w,mem,fun _=>none,fun k=>Nat.blt k n,fun _ hk=>⟨zW hk,rfl⟩⟩
theorem Hp.rebase{B B':Base}{ent:Nat→Option Entry}{used:Nat→Bool}(h:Hp B ρ ent used w)(h0:B'.w0=B.w0)(hm:B'.mem=B.mem):Hp B' ρ ent used w:=by
 refine⟨fun id e he=> ?_,h.hi,by rw [h0];exact h.hf.os,by rw [h0];exact h.hf.tape,by rw [h0];exact h.hf.output,by rw [h0];exact h.hf.size,by rw [hm];exact h.hf.mem,h.hf.dat,h.hf.gl⟩
 obtain⟨h1,h2,h3⟩:=h.he id e he
 refine⟨?_,h2,h3⟩
 cases e with
 |box T cs=>obtain⟨b,k1,k2,k3,k4⟩:=h1;exact⟨b,k1,k2,by rw [hm];exact k3,k4⟩
 |row own e0 t xs=>
  cases own with
  |false=>exact h1
  |true=>obtain⟨cs,k1,k2,k3⟩:=h1;exact⟨cs,k1,k2,fun b hb=>⟨by rw [hm];exact(k3 b hb).1,(k3 b hb).2⟩⟩
 |tree e0 t xs ho=>obtain⟨cs,Ls,k1,k2,k3,k4,k5⟩:=h1;exact⟨cs,Ls,k1,k2,k3,k4,fun b hb=>⟨by rw [hm];exact(k5 b hb).1,(k5 b hb).2⟩⟩
 |wk e0 t xs=>obtain⟨k1,k2,k3⟩:=h1;exact⟨k1,k2,fun b hb=>⟨by rw [hm];exact(k3 b hb).1,(k3 b hb).2⟩⟩
 |gone=>trivial
theorem Mdl.init{args:List SV}{es:List Entry}{n:Nat}{mem:Nat→Option Obj}(hn:args.length≤n)(ei: ∀ v∈args,v.inU fun i=>Nat.blt i es.length)(hp:HpL w mem es ρ w):
  Mdl (uq n w mem) ρ (SX.init args es) { tmps:=(args.map (SV.conc ρ)).toArray++Array.replicate (n - (args.map (SV.conc ρ)).toArray.size) undef,defers:= [] } w:=by
 have eI: ∀ k x,(SX.init args es).look k=some x→ ∃ v,args[k]? =some v∧x=⟨none,v⟩:=by
  intro k x hx
  simp only [SX.init]at hx
  split at hx
  ·rename_i v hv;cases hx;exact⟨v,hv,rfl⟩
  ·cases hx
 refine⟨rfl,by simp [uq];omega,fun k x hx=> ?_,fun k x j b hx hj=> ?_,fun k x hx=> ?_,Hp.rebase (B:=memB w mem) hp rfl rfl,fun k v hv=>(by cases hv)⟩
 ·obtain⟨v,hv,rfl⟩:=eI k x hx
  have bI:k < args.length:=(zQ.1 hv).1
  simp only [SS.at]
  rw [Array.getElem?_append_left (by simpa using bI)]
  simp [hv]
 ·obtain⟨v,hv,rfl⟩:=eI k x hx;cases hj
 ·obtain⟨v,hv,rfl⟩:=eI k x hx;exact ei v (List.mem_of_getElem? hv)
def mC(P:Program)(fn:Func)(m:Nat)(lo:St→Option Out):Prop:=
 ∀ {B:Base} {ρ:Nm} {s:St} {a:Act} {w:World} {o:Out},Mdl B ρ s a w→(∀ i,Nat.blt i m=true→s.used i=true)→lo s=some o→
  ∃ ρ':Nm,Ext B (fun i=>Nat.blt i m) ρ ρ'∧(results fn a.tmps).run P w= .ok (o.res.conc ρ') w∧o.es.length=m∧
   o.res.inU (fun i=>Nat.blt i (o.es++o.new).length)∧HpL B.w0 B.mem (o.es++o.new) ρ' w
theorem iB{m:Nat}{v:SV}{L:List Nat}{o:Out}(hp:Hp B ρ s.ent s.used w)(h:nq s m v L=some o):
  ∃ ρ':Nm,Ext B (fun i=>Nat.blt i m) ρ ρ'∧o.res.conc ρ'=v.conc ρ∧o.es.length=m∧
   o.res.inU (fun i=>Nat.blt i (o.es++o.new).length)∧HpL B.w0 B.mem (o.es++o.new) ρ' w:=by
 unfold nq at h
 split at h
 ·rename_i u es' hu hes'
  cases hck2:(lm L&&eqN (L.take m) (ac 0 m))with
  |false=>simp [hck2]at h
  |true=>
   simp only [hck2,cond_true]at h
   cases h
   simp only [w4]at hck2
   have hpre:=vu hck2.2
   have gv: ∀ i,i < m→L[i]? =some i:=fun i hi=>by
    have:=eH (n:=0) hi
    rw [← hpre,List.getElem?_take,if_pos hi,Nat.zero_add]at this
    exact this
   have hrel:=wx hp (ln hck2.1) hes'
   have bj:es'.length=L.length:=(ec hes').1
   have hLl:m≤L.length:=by
    have:=congrArg List.length hpre
    rw [iz,List.length_take]at this
    omega
   have hcv:u.conc (subNm ρ L)=v.conc ρ:=SV.ren_conc (U:=fun _=>true) (fun i j _ hj=>bn (dD hj)) (by
    have hc: ∀ c:Cell,c.inU fun _=>true:=fun c=>by cases c <;> simp [Cell.inU]
    cases v with
    |one v=>exact fun c _=>hc c
    |tup vs=>exact fun v _ c _=>hc c) hu
   refine⟨subNm ρ L,⟨fun i hi=> ?_,fun _ _ hb=>hb,fun _ _ hb=> .inl hb⟩,hcv,by simp only [List.length_take];omega,?_,by rw [List.take_append_drop];exact hrel⟩
   ·have hi':i < m:=zW hi
    rw [bn (gv i hi')]
   ·rw [List.take_append_drop]
    refine SV.ren_inU (fun i j hj=> ?_) hu
    have:=(zQ.1 (dD hj)).1
    simp only [Nat.blt,Nat.ble_eq];omega
 ·cases h
theorem tS(m:Nat):mC P fn m (rV P fn m):=by
 intro B ρ s a w o hM _ h
 unfold rV at h
 split at h
 ·rename_i v hv
  have hr:=gZ hM hv
  obtain⟨ρ',h1,h2,h3,h4,h5⟩:=iB hM.hp h
  exact⟨ρ',h1,by rw [h2];exact hr,h3,h4,h5⟩
 ·cases h
theorem Hp.less{B:Base}{ρ:Nm}{w:World}{ent1 ent2:Nat→Option Entry}{used:Nat→Bool}(h:Hp B ρ ent1 used w)
  (hs: ∀ id e2,ent2 id=some e2→ ∃ e1,ent1 id=some e1∧e2.holds B ρ w id∧(∀ b∈e2.ob ρ id,b∈e1.ob ρ id)∧e2.inU used):Hp B ρ ent2 used w:=by
 refine⟨fun id e he=> ?_,fun id id' e e' b he he' hb hb'=> ?_,h.hf⟩
 ·obtain⟨e1,h1,h2,_,h4⟩:=hs id e he
  exact⟨h2,(h.he id e1 h1).2.1,h4⟩
 ·obtain⟨e1,h1,_,h3,_⟩:=hs id e he
  obtain⟨e1',h1',_,h3',_⟩:=hs id' e' he'
  exact h.hi id id' e1 e1' b h1 h1' (h3 b hb) (h3' b hb')
theorem Hp.reref{ent:Nat→Option Entry}{used:Nat→Bool}(h:Hp B ρ ent used w){b k i j:Nat}{T:TypeId}{cs:List Cell}(hb:ent b=some (.box T cs))(hk:cs[k]? =some (.ref i))(hj:used j=true)(hn:ρ j=ρ i):
  Hp B ρ (ae ent [(b,.box T (cs.set k (.ref j)))]) used w:=by
 refine h.swap fun id e2 he=> ?_
 simp only [ae]at he
 cases hl:look? [(b,Entry.box T (cs.set k (.ref j)))] id with
 |none=>
  rw [hl]at he
  exact⟨e2,he,(h.he id e2 he).1,rfl,(h.he id e2 he).2.2⟩
 |some e=>
  obtain⟨rfl,rfl⟩:=look?_one hl
  rw [hl]at he;cases he
  obtain⟨⟨a,k1,k2,k3,k4⟩,_,ei⟩:=h.he _ _ hb
  have hm:(cs.set k (.ref j)).map (Cell.conc ρ)=cs.map (Cell.conc ρ):=by
   apply List.ext_getElem?
   intro n
   simp only [List.getElem?_map,List.getElem?_set]
   by_cases hkn:k=n
   ·subst hkn
    have bI:=(zQ.1 hk).1
    rw [if_pos rfl,if_pos bI,hk]
    simp only [Option.map_some,Cell.conc,hn]
   ·simp [hkn]
  refine⟨_,hb,⟨a,k1,by rw [hm];exact k2,k3,k4⟩,rfl,fun c hc=> ?_⟩
  rcases List.mem_or_eq_of_mem_set hc with hc | rfl
  ·exact ei c hc
  ·exact hj
theorem vm{ent ent':Nat→Option Entry}{used used':Nat→Bool}{b k j:Nat}(h:Hp B ρ ent used w)(hc:vl ent used b k j=some (ent',used')):
  ∃ ρ':Nm,Ext B used ρ ρ'∧(∀ id,used id=true→used' id=true)∧Hp B ρ' ent' used' w:=by
 unfold vl at hc
 split at hc
 ·rename_i T cs hb
  split at hc
  ·rename_i i hk
   cases hu:used j with
   |true=>simp [hu]at hc
   |false=>
    simp only [hu,cond_false]at hc
    have hbu:=(h.he _ _ hb).2.1
    have hbj:Nat.beq j b=false:=by
     cases hq:Nat.beq j b with
     |false=>rfl
     |true=>rw [q8 hq,hbu]at hu;cases hu
    split at hc
    ·rename_i e t xs he
     cases hc
     obtain⟨⟨cs0,q1,q2,q3⟩,hiu,_⟩:=h.he _ _ he
     have hib:Nat.beq i b=false:=by
      cases hq:Nat.beq i b with
      |false=>rfl
      |true=>have:=q8 hq;subst this;rw [hb]at he;cases he
     obtain⟨x1,h1⟩:=h.rowTo (xs':=xs) (w':=w) (v':=ρ i) he hu (Chg.refl w _) q1 q2 (fun _ hb=> .inr hb)
     refine⟨_,x1,fun id aR=>aD id aR,?_⟩
     refine Hp.reref (i:=i) h1 ?_ hk (by simp [ag,memN]) ?_
     ·simp only [ae,look?,hbj,hib,cond_false];exact hb
     ·rw [ax ρ j (show eM (ρ i)=ρ i from ge _),fM hu ρ _ i hiu]
    ·rename_i e t xs he
     cases hc
     obtain⟨q1,hiu,_⟩:=h.he _ _ he
     have fc:=fM hu ρ (ρ i)
     obtain⟨x1,h1⟩:=h.names (ρ':=upd ρ j (ρ i)) (es:= [(j,.row false e t xs)]) (new:= [j]) fc rfl (fun id e' hl=>by
      obtain⟨rfl,rfl⟩:=look?_one hl
      refine⟨?_,by simp [ag,memN],trivial,rfl⟩
      simp only [Entry.holds]at q1 ⊢
      rw [ax ρ _ (show eM (ρ i)=ρ i from ge _)];exact q1)
     refine⟨_,x1,fun id aR=>aD id aR,?_⟩
     refine Hp.reref (i:=i) h1 ?_ hk (by simp [ag,memN]) ?_
     ·simp only [ae,look?,hbj,cond_false];exact hb
     ·rw [ax ρ j (show eM (ρ i)=ρ i from ge _),fc i hiu]
    ·rename_i e t xs he
     cases hc
     have hib:Nat.beq i b=false:=by
      cases hq:Nat.beq i b with
      |false=>rfl
      |true=>have:=q8 hq;subst this;rw [hb]at he;cases he
     obtain⟨ρ',v1,v2,x1,h1⟩:=h.treeName he hu
     refine⟨ρ',x1,fun id aR=>aD id aR,?_⟩
     refine Hp.reref (i:=i) h1 ?_ hk (by simp [ag,memN]) (by rw [v1,v2])
     simp only [ae,look?,gS,w8,List.map_nil,hbj,hib,cond_false];exact hb
    ·cases hc
  ·cases hc
 ·cases hc
theorem qY: ∀ {l:List (Nat×Nat)} {j:Nat} {ρ:Nm} {ent ent':Nat→Option Entry} {used used':Nat→Bool},Hp B ρ ent used w→pN l j ent used=some (ent',used')→
  ∃ ρ':Nm,Ext B used ρ ρ'∧(∀ id,used id=true→used' id=true)∧Hp B ρ' ent' used' w
 | [],_,ρ,_,_,_,_,h,hc=>by
  simp only [pN,w3,Prod.mk.injEq]at hc
  obtain⟨rfl,rfl⟩:=hc
  exact⟨ρ,Ext.refl _ _ _,fun _ h=>h,h⟩
 |p::r,j,ρ,ent,ent',used,used',h,hc=>by
  simp only [pN]at hc
  split at hc
  ·rename_i e u fX
   obtain⟨ρ1,x1,u1,h1⟩:=vm h fX
   obtain⟨ρ2,x2,u2,h2⟩:=qY h1 hc
   exact⟨ρ2,x1.trans x2 u1,fun id aR=>u2 id (u1 id aR),h2⟩
  ·cases hc
theorem pK{m:Nat}{G l:List Nat}{fz:Bool}{s':St}(h:Hp B ρ s.ent s.used w)(hc:su m G fz l s=some s'):
  ∃ ρ':Nm,Ext B s.used ρ ρ'∧Hp B ρ' s'.ent s'.used w:=by
 have hz: ∃ ρ0:Nm,Ext B s.used ρ ρ0∧Hp B ρ0 (bif fz then ae s.ent (frz s.ent (iZ s.ent (ac 0 m)++l))else s.ent) s.used w:=by
  cases fz with
  |false=>exact⟨ρ,Ext.refl _ _ _,h⟩
  |true=>
   obtain⟨ρ0,_,x0,h0⟩:=Hp.freezes (e0:=s.ent) (fun _ _ h=>h) h (iZ s.ent (ac 0 m)++l)
   exact⟨ρ0,x0,h0⟩
 obtain⟨ρ0,x0,h0⟩:=hz
 unfold su at hc
 split at hc
 ·rename_i e u fX
  cases hc
  obtain⟨ρ1,x1,_,h1⟩:=qY h0 fX
  refine⟨ρ1,x0.trans x1 fun _ h=>h,?_⟩
  show Hp B ρ1 (nf G e) u w
  refine h1.less fun id e2 he=> ?_
  simp only [nf]at he
  cases hm:memN G id with
  |false=>
   simp only [hm,cond_false]at he
   exact⟨e2,he,(h1.he id e2 he).1,fun _ h=>h,(h1.he id e2 he).2.2⟩
  |true=>
   simp only [hm,cond_true]at he
   split at he
   ·rename_i e1 he1
    cases he
    exact⟨e1,he1,trivial,(fun b hb=>by cases hb),trivial⟩
   ·cases he
 ·cases hc
theorem jg(m:Nat)(G:List Nat)(fz:Bool)(fr:Nat):mC P fn m (jz P fn m G fz fr):=by
 intro B ρ s a w o hM hu h
 unfold jz at h
 split at h
 ·rename_i v hv
  have hr:=gZ hM hv
  cases ei:v.inUb s.used with
  |false=>simp [ei]at h
  |true=>
   simp only [ei,cond_true]at h
   split at h
   ·rename_i s' hcn
    obtain⟨ρ1,x1,h1⟩:=pK hM.hp hcn
    obtain⟨ρ',h1,h2,h3,h4,h5⟩:=iB h1 h
    refine⟨ρ',(x1.sub hu).trans h1 fun _ h=>h,?_,h3,h4,h5⟩
    rw [h2,SV.conc_congr (U:=s.used) (fun id aR=>x1.nm id aR) (SV.inUb_sound ei)]
    exact hr
   ·cases h
 ·cases h
theorem sA{G:List Nat}{ent:Nat→Option Entry}{used:Nat→Bool}(h1:Hp B ρ ent used w):Hp B ρ (nf G ent) used w:=by
 refine h1.less fun id e2 he=> ?_
 simp only [nf]at he
 cases hm:memN G id with
 |false=>
  simp only [hm,cond_false]at he
  exact⟨e2,he,(h1.he id e2 he).1,fun _ h=>h,(h1.he id e2 he).2.2⟩
 |true=>
  simp only [hm,cond_true]at he
  split at he
  ·rename_i e1 he1
   cases he
   exact⟨e1,he1,trivial,(fun b hb=>by cases hb),trivial⟩
  ·cases he
theorem xf{r:SV}{i:Nat}{y:Option Value}(h:slM r=some (i,y)):r=mkM i y:=by
 unfold slM at h
 split at h
 ·cases h;rfl
 ·cases h;rfl
 ·cases h
theorem sM(m:Nat)(G:List Nat):mC P fn m (qd P fn m G):=by
 intro B ρ s a w o hM hu h
 unfold qd at h
 split at h
 ·rename_i r0 hv
  split at h
  case h_2=>cases h
  rename_i i y hsl
  have hrv:r0=mkM i y:=xf hsl
  subst hrv
  have hr:=gZ hM hv
  cases ei:(mkM i y).inUb s.used with
  |false=>simp [ei]at h
  |true=>
   simp only [ei,cond_true]at h
   have hsu:=SV.inUb_sound ei
   split at h
   ·rename_i s' hcn
    obtain⟨ρ1,x1,h1⟩:=pK hM.hp hcn
    split at h
    ·rename_i e t xs he
     cases hb:Nat.blt i m with
     |false=>
      simp only [hb,cond_false]at h
      obtain⟨ρ',g1,g2,g3,g4,g5⟩:=iB (sA h1) h
      refine⟨ρ',(x1.sub hu).trans g1 fun _ h=>h,?_,g3,g4,g5⟩
      rw [g2,SV.conc_congr (U:=s.used) (fun id aR=>x1.nm id aR) hsu]
      exact hr
     |true=>
      simp only [hb,cond_true]at h
      cases hj:(s'.used ((s.next + 20) * 64)|| !(ac 0 m).all s'.used)with
      |true=>simp [hj]at h
      |false=>
       simp only [hj,cond_false]at h
       simp only [Bool.or_eq_false_iff,Bool.not_eq_false']at hj
       obtain⟨hju,hal⟩:=hj
       obtain⟨⟨cs0,q1,q2,q3⟩,hiu,_⟩:=h1.he _ _ he
       obtain⟨x2,h2⟩:=h1.rowTo (xs':=xs) (w':=w) (v':=ρ1 i) he hju (Chg.refl w _) q1 q2 (fun _ hb=> .inr hb)
       have hU: ∀ id,Nat.blt id m=true→s'.used id=true:=fun id aR=>by
        have bI:id < m:=zW aR
        exact List.all_eq_true.1 hal id (List.mem_of_getElem? (by rw [eH (k:=m) (n:=0) bI,Nat.zero_add]))
       obtain⟨ρ',g1,g2,g3,g4,g5⟩:=iB (sA h2) h
       refine⟨ρ',((x1.sub hu).trans (x2.sub hU) fun _ h=>h).trans g1 fun _ h=>h,?_,g3,g4,g5⟩
       have hc:(mkM ((s.next + 20) * 64) y).conc (upd ρ1 ((s.next + 20) * 64) (ρ1 i))=(mkM i y).conc ρ:=by
        have e1:ρ1 i=ρ i:=x1.nm i (by cases y <;> simpa [mkM,SV.inUb,V1.inUb,Cell.inUb,Cell.ids] using ei)
        have e2:(upd ρ1 ((s.next + 20) * 64) (ρ1 i)) ((s.next + 20) * 64)=ρ i:=by rw [ax ρ1 _ (show eM (ρ1 i)=ρ1 i from ge _),e1]
        cases y <;> simp only [mkM,SV.conc,V1.conc,Cell.conc,w8,List.map_nil,e2]
       rw [g2,hc]
       exact hr
    ·cases h
   ·cases h
 ·cases h
theorem sL(m:Nat)(G:List Nat):mC P fn m (qc P fn m G):=by
 intro B ρ s a w o hM hu h
 unfold qc at h
 split at h
 ·rename_i i hv
  have hr:=gZ hM hv
  cases ei:(SV.one ⟨false,[.ref i]⟩).inUb s.used with
  |false=>simp [ei]at h
  |true=>
   simp only [ei,cond_true]at h
   have hsu:=SV.inUb_sound ei
   split at h
   ·rename_i s' hcn
    obtain⟨ρ1,x1,h1⟩:=pK hM.hp hcn
    split at h
    ·rename_i e t xs he
     cases hb:Nat.blt i m with
     |false=>
      simp only [hb,cond_false]at h
      obtain⟨ρ',g1,g2,g3,g4,g5⟩:=iB h1 h
      refine⟨ρ',(x1.sub hu).trans g1 fun _ h=>h,?_,g3,g4,g5⟩
      rw [g2,SV.conc_congr (U:=s.used) (fun id aR=>x1.nm id aR) hsu]
      exact hr
     |true=>
      simp only [hb,cond_true]at h
      cases hj:(s'.used ((s.next + 20) * 64)|| !(ac 0 m).all s'.used)with
      |true=>simp [hj]at h
      |false=>
       simp only [hj,cond_false]at h
       simp only [Bool.or_eq_false_iff,Bool.not_eq_false']at hj
       obtain⟨hju,hal⟩:=hj
       obtain⟨q1,hiu,_⟩:=h1.he _ _ he
       have fc:=fM hju ρ1 (ρ1 i)
       obtain⟨x2,h2⟩:=h1.names (ρ':=upd ρ1 ((s.next + 20) * 64) (ρ1 i)) (es:= [((s.next + 20) * 64,.row false e t xs)]) (new:= [(s.next + 20) * 64]) fc rfl (fun id e' hl=>by
        obtain⟨rfl,rfl⟩:=look?_one hl
        refine⟨?_,by simp [ag,memN],trivial,rfl⟩
        simp only [Entry.holds]at q1 ⊢
        rw [ax ρ1 _ (show eM (ρ1 i)=ρ1 i from ge _)];exact q1)
       have hU: ∀ id,Nat.blt id m=true→s'.used id=true:=fun id aR=>by
        have bI:id < m:=zW aR
        exact List.all_eq_true.1 hal id (List.mem_of_getElem? (by rw [eH (k:=m) (n:=0) bI,Nat.zero_add]))
       obtain⟨ρ',g1,g2,g3,g4,g5⟩:=iB h2 h
       refine⟨ρ',((x1.sub hu).trans (x2.sub hU) fun _ h=>h).trans g1 fun _ h=>h,?_,g3,g4,g5⟩
       have hc:(SV.one ⟨false,[.ref ((s.next + 20) * 64)]⟩).conc (upd ρ1 ((s.next + 20) * 64) (ρ1 i))=(SV.one ⟨false,[.ref i]⟩).conc ρ:=by
        have e1:ρ1 i=ρ i:=x1.nm i (by simpa [SV.inUb,V1.inUb,Cell.inUb,Cell.ids] using ei)
        simp only [SV.conc,V1.conc,Cell.conc]
        rw [ax ρ1 _ (show eM (ρ1 i)=ρ1 i from ge _),e1]
       rw [g2,hc]
       exact hr
    ·cases h
   ·cases h
 ·cases h
theorem fnJ_conc{ρ ρ':Nm}{U:Nat→Bool}{j:Nat}(h: ∀ id,U id=true→ρ' id=ρ id)(hj:ρ' j= .nilFunc){c:Cell}(hc:c.inU U):(fnJ j c).conc ρ'=c.conc ρ:=by
 unfold fnJ
 split
 ·exact hj
 ·exact Cell.conc_congr h hc
theorem V1.fnJ_conc{ρ ρ':Nm}{U:Nat→Bool}{j:Nat}(h: ∀ id,U id=true→ρ' id=ρ id)(hj:ρ' j= .nilFunc){v:V1}(hc:v.inU U):(v.fnJ j).conc ρ'=v.conc ρ:=by
 obtain⟨g,cs⟩:=v
 have e:(cs.map (SX.fnJ j)).map (Cell.conc ρ')=cs.map (Cell.conc ρ):=by
  rw [List.map_map];exact List.map_congr_left fun c hm=>SX.fnJ_conc h hj (hc c hm)
 cases g with
 |true=>show Value.agg ((cs.map (SX.fnJ j)).map (Cell.conc ρ')).toArray=_;rw [e];rfl
 |false=>
  match cs,hc with
  | [],_=>rfl
  | [c],hc=>exact SX.fnJ_conc h hj (hc c (List.mem_singleton.2 rfl))
  |_::_::_,_=>rfl
theorem SV.fnJ_conc{ρ ρ':Nm}{U:Nat→Bool}{j:Nat}(h: ∀ id,U id=true→ρ' id=ρ id)(hj:ρ' j= .nilFunc){v:SV}(hc:v.inU U):(v.fnJ j).conc ρ'=v.conc ρ:=by
 cases v with
 |one v=>exact V1.fnJ_conc h hj hc
 |tup l=>
  show Value.tuple ((l.map (V1.fnJ j)).map (V1.conc ρ')).toArray=Value.tuple (l.map (V1.conc ρ)).toArray
  rw [List.map_map,List.map_congr_left (f:=V1.conc ρ' ∘ V1.fnJ j) (g:=V1.conc ρ) fun v hv=>V1.fnJ_conc h hj (hc v hv)]
theorem sN(m:Nat):mC P fn m (qe P fn m):=by
 intro B ρ s a w o hM hu h
 unfold qe at h
 split at h
 ·rename_i v hv
  have hr:=gZ hM hv
  cases hj:(s.used ((s.next + 30) * 64)|| !(v.inUb s.used))with
  |true=>simp [hj]at h
  |false=>
   simp only [hj,cond_false]at h
   simp only [Bool.or_eq_false_iff,Bool.not_eq_false']at hj
   obtain⟨hju,ei⟩:=hj
   have hsu:=SV.inUb_sound ei
   have fc:=fM hju ρ .nilFunc
   obtain⟨x2,h2⟩:=hM.hp.names (ρ':=upd ρ ((s.next + 30) * 64) .nilFunc) (es:= [((s.next + 30) * 64,.gone)]) (new:= [(s.next + 30) * 64]) fc rfl (fun id e' hl=>by
    obtain⟨rfl,rfl⟩:=look?_one hl
    exact⟨trivial,by simp [ag,memN],trivial,rfl⟩)
   obtain⟨ρ',g1,g2,g3,g4,g5⟩:=iB h2 h
   refine⟨ρ',(x2.sub hu).trans g1 fun _ h=>h,?_,g3,g4,g5⟩
   rw [g2,SV.fnJ_conc (U:=s.used) fc (ax ρ _ rfl) hsu]
   exact hr
 ·cases h
theorem uU{m:Nat}{G:List Nat}{r:R}{o:Out}(h:r.outAny P fn m G=some o): ∃ lo,mC P fn m lo∧r.outB lo=some o:=by
 unfold R.outAny at h
 split at h
 ·rename_i o' h';cases h;exact⟨_,tS m,h'⟩
 ·split at h
  ·rename_i o' h';cases h;exact⟨_,jg m G false 0,h'⟩
  ·split at h
   ·rename_i o' h';cases h;exact⟨_,jg m G true 0,h'⟩
   ·split at h
    ·rename_i o' h';cases h;exact⟨_,sM m G,h'⟩
    ·split at h
     ·rename_i o' h';cases h;exact⟨_,jg m G true 1000,h'⟩
     ·split at h
      ·rename_i o' h';cases h;exact⟨_,sL m G,h'⟩
      ·exact⟨_,sN m,h⟩
theorem wu{m:Nat}{G:List Nat}{fs:Bool}{r:R}{o:Out}(h:r.outF P fn m G fs=some o): ∃ lo,mC P fn m lo∧r.outB lo=some o:=by
 cases fs with
 |true=>exact⟨_,jg m G true 1,h⟩
 |false=>exact uU h
theorem kY{k:FuncId}(cq:P.follows .mixedOrders=true)(hf:P.funcs[k]? =some fn){lf:List (St→R)}(hl: ∀ c,fn.body=some c→LOk P (fun k=>Nat.blt k fn.ntmps) lf c){args:List SV}{es:List Entry}{o:Out}
  (h:ur P tbl lf fn args es=some o) (ba: ∀ b∈o.nd,b=true) (mem:Nat→Option Obj) (ρ:Nm) (w:World) (hp:HpL w mem es ρ w):
  Calls P k (args.map (SV.conc ρ)).toArray w fun e w'=> ∃ ρ':Nm,Ext (memB w mem) (fun i=>Nat.blt i es.length) ρ ρ'∧e= .returned (o.res.conc ρ')∧o.es.length=es.length∧
   o.res.inU (fun i=>Nat.blt i (o.es++o.new).length)∧HpL w mem (o.es++o.new) ρ' w':=by
 unfold ur at h
 split at h
 ·rename_i c hc
  cases tM:(args.all (SV.inUb fun i=>Nat.blt i es.length)&&Nat.ble args.length fn.ntmps)with
  |false=>simp [tM]at h
  |true=>
   simp only [tM,cond_true]at h
   simp only [w4,List.all_eq_true]at tM
   have hM:=Mdl.init (zW tM.2) (fun v hv=>SV.inUb_sound (tM.1 v hv)) hp
   obtain⟨lo,tn,h⟩:=wu h
   refine calls_of_wp hf hc ?_
   have hpost:=R.sat_and (py h ba) (nX (P:=P) (tbl:=tbl) (W:=fun k=>Nat.blt k fn.ntmps) lf c (SX.init args es) (hl c hc))
   refine wp_mono (cJ (B:=uq fn.ntmps w mem) cq lf c _ _ (hl c hc) hpost _ _ w hM) fun e a' w' ⟨x,s',ρ1,he,hx1,hM',⟨hx,o',ho',eP⟩,hu⟩=> ?_
   obtain⟨ρ2,x2,hr,l2,i2,h2⟩:=tn hM' (fun i hi=>hu i hi) ho'
   rw [← eP.res]at hr
   have hfin: ∃ ρ':Nm,Ext (memB w mem) (fun i=>Nat.blt i es.length) ρ ρ'∧Ending.returned (o.res.conc ρ2)=Ending.returned (o.res.conc ρ')∧o.es.length=es.length∧
     o.res.inU (fun i=>Nat.blt i (o.es++o.new).length)∧HpL w mem (o.es++o.new) ρ' w':=by
    refine⟨ρ2,?_,rfl,by rw [eP.len,l2],eP.inU i2,eP.hp _ _ _ _ h2⟩
    have x3:Ext (uq fn.ntmps w mem) (fun i=>Nat.blt i es.length) ρ ρ2:=Ext.trans (U':=fun i=>Nat.blt i es.length) hx1 x2 fun _ h=>h
    exact⟨x3.nm,x3.old,x3.new⟩
   subst he
   rcases hx with rfl | rfl <;> exact⟨hM'.hd,_,hr,hfin⟩
 ·cases h
def PF.of(P:Program)(tbl:List (PF P))(lf:List (St→R))(cq:P.follows .mixedOrders=true)(k:FuncId)(fn:Func)(hf:P.funcs[k]? =some fn)(hl: ∀ c,fn.body=some c→LOk P (fun k=>Nat.blt k fn.ntmps) lf c)
  (F:List SV→List Entry→Option Out) (h: ∀ vs es r,F vs es=some r→ur P tbl lf fn vs es=some r):PF P:=
 {k:=k,F:=F,ok:=fun vs es _ hv ba mem ρ w hp=>kY cq hf hl (h vs es _ hv) ba mem ρ w hp }
end
end Go.SX
namespace Go.SX
open Go.RowKit
section
variable{P:Program}{tbl:List (PF P)}{s s' t:St}{W:Nat→Bool}{lf:List (St→R)}{B:Base}{ρ:Nm}{a:Act}{w:World}{post post':Ex→St→Prop}{σ:Nat→Option Nat}
def my(σ:Nat→Option Nat)(ρ:Nm):Nm:=⟨fun id=>match σ id with | some j=>ρ.nm j | none=> .nilFunc,ρ.mem,fun id=>match σ id with | some j=>ρ.fp j | none=> []⟩
theorem bQ{i j:Nat}(h:σ i=some j):my σ ρ i=ρ j:=by simp only [Nm.of,my,h]
theorem nD{i j:Nat}(h:σ i=some j):(my σ ρ).fp i=ρ.fp j:=by simp only [my,h]
structure SubR (σ:Nat→Option Nat) (t s:St):Prop where
 look: ∀ k x,t.look k=some x→ ∃ y,s.look k=some y∧x.g=none∧y.g=none∧x.v.ren σ=some y.v∧x.v.inU t.used
 ent: ∀ id e,t.ent id=some e→ ∃ j e',σ id=some j∧s.ent j=some e'∧e.ren σ=some e'∧t.used id=true∧e.inU t.used
 inj: ∀ id id' j,σ id=some j→σ id'=some j→id=id'
theorem SubR.mdl(h:SubR σ t s)(hM:Mdl B ρ s a w):Mdl B (my σ ρ) t a w:=by
 have hr: ∀ i j,(fun _:Nat=>true) i=true→σ i=some j→ρ j=my σ ρ i:=fun i j _ hj=>(bQ hj).symm
 have jx: ∀ c:Cell,c.inU fun _=>true:=fun c=>by cases c <;> simp [Cell.inU]
 have hallV: ∀ v:SV,v.inU fun _=>true:=fun v=>by
  cases v with
  |one v=>exact fun c _=>jx c
  |tup vs=>exact fun v _ c _=>jx c
 have pu: ∀ (id:Nat) (e:Entry) (j:Nat) (e':Entry),σ id=some j→e.ren σ=some e'→e.ob (my σ ρ) id=e'.ob ρ j:=by
  intro id e j e' h1 h3
  cases e with
  |box T cs=>simp only [Entry.ren,q9]at h3;obtain⟨cs',_,rfl⟩:=h3;simp only [Entry.ob,bQ h1]
  |row own e t xs=>simp only [Entry.ren,w3]at h3;subst h3;exact oy (bQ h1)
  |tree e t xs ho=>
   cases ho with
   |none=>simp only [Entry.ren,w3]at h3;subst h3;simp only [Entry.ob,bQ h1,nD h1]
   |some q=>simp only [Entry.ren,q9]at h3;obtain⟨cs',_,rfl⟩:=h3;simp only [Entry.ob,bQ h1,nD h1]
  |wk e t xs=>simp only [Entry.ren,w3]at h3;subst h3;simp only [Entry.ob,bQ h1]
  |gone=>simp only [Entry.ren,w3]at h3;subst h3;rfl
 refine⟨hM.hd,hM.hn,fun k x hx=> ?_,fun k x j b hx hj=> ?_,fun k x hx=> ?_,⟨fun id e he=> ?_,fun id id' e e' b he he' hb hb'=> ?_,hM.hp.hf.os,hM.hp.hf.tape,hM.hp.hf.output,hM.hp.hf.size,hM.hp.hf.mem,hM.hp.hf.dat,hM.hp.hf.gl⟩,hM.hl⟩
 ·obtain⟨y,h1,h2,h3,h4,_⟩:=h.look k x hx
  rw [hM.hs k y h1]
  simp only [SS.at,h2,h3]
  rw [SV.ren_conc (U:=fun _=>true) hr (hallV _) h4]
 ·obtain⟨_,_,h2,_⟩:=h.look k x hx;rw [h2]at hj;cases hj
 ·obtain⟨_,_,_,_,_,h5⟩:=h.look k x hx;exact h5
 ·obtain⟨j,e',h1,h2,h3,h4,h5⟩:=h.ent id e he
  refine⟨?_,h4,h5⟩
  have g1:=(hM.he j e' h2).1
  cases e with
  |box T cs=>
   simp only [Entry.ren,q9]at h3
   obtain⟨cs',fX,rfl⟩:=h3
   obtain⟨b,k1,k2,k3,k4⟩:=g1
   refine⟨b,by rw [bQ h1];exact k1,?_,k3,k4⟩
   rw [← ee fX fun x hx y hy=>Cell.ren_conc (U:=fun _=>true) hr (jx x) hy]
   exact k2
  |row own e0 t xs=>
   simp only [Entry.ren,w3]at h3;subst h3
   cases own with
   |false=>simp only [Entry.holds];rw [bQ h1];exact g1
   |true=>
    obtain⟨cs,k1,k2,k3⟩:=g1
    simp only [Entry.holds];rw [bQ h1]
    exact⟨cs,k1,k2,k3⟩
  |tree e0 t xs ho=>exact(rC h3 g1 (bQ h1) (nD h1) rfl (fun i j oa=>bQ oa)).1
  |wk e0 t xs=>
   simp only [Entry.ren,w3]at h3;subst h3
   simp only [Entry.holds];rw [bQ h1];exact g1
  |gone=>trivial
 ·obtain⟨j,e1,h1,h2,h3,_⟩:=h.ent id e he
  obtain⟨j',e1',h1',h2',h3',_⟩:=h.ent id' e' he'
  rw [pu id e j e1 h1 h3]at hb
  rw [pu id' e' j' e1' h1' h3']at hb'
  have:=hM.hp.hi j j' e1 e1' b h2 h2' hb hb'
  subst this
  exact h.inj id id' j h1 h1'
theorem Sat.loop{b:Code}(U:Nat→Bool)(I:Nat→St→Prop)(hU: ∀ m s,I m s→ ∀ id,U id=true→s.used id=true)
  (round: ∀ m s,I m s→Sat P B b s fun x s'=>match x with | .normal=> ∃ m' s'' σ,m' < m∧I m' s''∧SubR σ s'' s'∧(∀ id,U id=true→σ id=some id) | x=>post x s')
  (m:Nat) (s:St) (h:I m s) (hM:Mdl B ρ s a w):
  (Code.loop b).wp P (fun e a' w'=> ∃ x s' ρ',e=Ex.out x∧Ext B U ρ ρ'∧Mdl B ρ' s' a' w'∧post x s') a w:=by
 refine Go.wp_loop_ghost (fun m a w=> ∃ s ρ',I m s∧Ext B U ρ ρ'∧Mdl B ρ' s a w) m ⟨s,ρ,h,Ext.refl _ _ _,hM⟩ fun m a w ⟨s,ρ1,hI,dH,hM⟩=> ?_
 refine wp_mono (round m s hI ρ1 a w hM) fun e a' w' ⟨x,s',ρ',he,hag',hM',hp⟩=> ?_
 subst he
 have hagg:Ext B U ρ ρ':=dH.trans (hag'.sub (hU m s hI)) fun _ h=>h
 cases x with
 |normal=>
  obtain⟨m',s'',σ,bI,hI',mj,hσ⟩:=hp
  refine⟨m',bI,s'',my σ ρ',hI',⟨fun id aR=> ?_,hagg.old,hagg.new⟩,mj.mdl hM'⟩
  rw [bQ (hσ id aR)];exact hagg.nm id aR
 |exit id=>exact⟨.exit id,s',ρ',rfl,hagg,hM',hp⟩
 |ret=>exact⟨.ret,s',ρ',rfl,hagg,hM',hp⟩
end
structure Shape where
 D:List Nat
 fx:List Nat
 rw:List Nat
 nw:List Nat
def Shape.ids(h:Shape):List Nat:=h.fx++h.rw
def Shape.out(h:Shape):List Nat:=h.rw++h.nw
def Shape.idsX(h:Shape):List Nat:=h.fx++h.out
def Shape.fresh(h:Shape)(s:St):List Nat:=ac (s.next * 64) h.out.length
def Shape.tau(h:Shape)(σ:Nat→Option Nat)(s:St)(id:Nat):Option Nat:=
 bif memN h.fx id then σ id else match iI h.out id with
  |some i=>(h.fresh s)[i]?
  |none=>none
def Shape.old(h:Shape)(σ:Nat→Option Nat):List Nat:=h.ids.filterMap σ
def isD:Option Entry→Bool
 |some (.row false _ _ _)=>true
 |_=>false
def eF(h:Shape)(τ σ:Nat→Option Nat)(dt:Nat→Bool)(y:St):List Nat→List (Nat×Entry)
 | []=>((h.rw.filterMap σ).filter fun k=> !dt k).map fun k=>(k,Entry.gone)
 |id::r=>match τ id,y.ent id with
  |some k,some e=>match e.ren τ with
   |some e'=>(k,e')::eF h τ σ dt y r
   |none=>eF h τ σ dt y r
  |_,_=>eF h τ σ dt y r
def qJ(h:Shape)(σ:Nat→Option Nat)(y s:St):St:=
 let τ:=h.tau σ s
 {look:=fun k=>bif memN h.D k then(match y.look k with | some x=>(x.v.ren τ).map (SS.mk none) | none=>none)else s.clean.look k
  ent:=ae s.ent (eF h τ σ (fun k=>isD (s.ent k)) y h.idsX)
  used:=ag s.used (h.fresh s),wr:=fun _=>false,next:=s.next + 1,log:=h.D++s.log,logE:=bH (eF h τ σ (fun k=>isD (s.ent k)) y h.idsX)++s.logE }
theorem qZ(h:Shape)(σ:Nat→Option Nat)(y s:St):Unch s (qJ h σ y s):=by
 refine⟨fun k hk=> ?_,fun k hk=> ?_,fun k hk=>w6 _ hk,fun k hk=>w6 _ hk,fun k hk=>aD _ hk⟩
 ·simp only [qJ,w7,not_or]at hk ⊢
  have:memN h.D k=false:=by cases hm:memN h.D k with | false=>rfl | true=>exact absurd (SX.memN_mem.1 hm) hk.1
  simp only [this,cond_false]
  exact mF s k
 ·simp only [qJ,w7,not_or]at hk ⊢
  simp only [ae]
  rw [look?_none (by simpa [bH] using hk.1)]
end Go.SX
namespace Go.SX
open Go.RowKit
structure Fits (ids:List Nat) (t:St):Prop where
 hused: ∀ id,t.used id=memN ids id
 hsome: ∀ id,memN ids id=true→ ∃ e,t.ent id=some e
 hnone: ∀ id,memN ids id=false→t.ent id=none
 hg: ∀ k z,t.look k=some z→z.g=none
structure FitsX (h:Shape) (t:St):Prop where
 hused: ∀ id,t.used id=true→id∈h.idsX
 hsome: ∀ id∈h.fx,∃ e,t.ent id=some e
 hg: ∀ k z,t.look k=some z→z.g=none
section
variable{P:Program}{tbl:List (PF P)}{s s' t:St}{W:Nat→Bool}{lf:List (St→R)}{B:Base}{ρ:Nm}{a:Act}{w:World}{post post':Ex→St→Prop}{σ:Nat→Option Nat}
theorem rj{h:Shape}{τ σ:Nat→Option Nat}{dt:Nat→Bool}{y:St}: ∀ {l:List Nat} {k:Nat} {e:Entry},look? (eF h τ σ dt y l) k=some e→
  (∃ id∈l,∃ e0,τ id=some k∧y.ent id=some e0∧e0.ren τ=some e)∨((∃ id∈h.rw,σ id=some k)∧e= .gone)
 | [],k,e,hl=>by
  right
  simp only [eF]at hl
  have eI: ∀ l:List Nat,look? (l.map fun k=>(k,Entry.gone)) k=some e→k∈l∧e= .gone:=by
   intro l
   induction l with
   |nil=>intro h;simp [look?]at h
   |cons p r ih=>
    intro h
    simp only [w8,look?]at h
    cases hb:Nat.beq p k with
    |true=>
     have:=q8 hb;subst this
     simp at h;exact⟨by simp,h.symm⟩
    |false=>simp [hb]at h;exact⟨by simp [(ih h).1],(ih h).2⟩
  obtain⟨h1,h2⟩:=eI _ hl
  obtain⟨id,h3,h4⟩:=List.mem_filterMap.1 (List.mem_filter.1 h1).1
  exact⟨⟨id,h3,h4⟩,h2⟩
 |id::r,k,e,hl=>by
  simp only [eF]at hl
  have rec':look? (eF h τ σ dt y r) k=some e→(∃ i∈id::r,∃ e0,τ i=some k∧y.ent i=some e0∧e0.ren τ=some e)∨((∃ id∈h.rw,σ id=some k)∧e= .gone):=fun hh=>
   (rj hh).imp (fun⟨i,hi,q⟩=>⟨i,by simp [hi],q⟩) fun q=>q
  split at hl
  ·rename_i k' e0 h1 h2
   split at hl
   ·rename_i e' h3
    simp only [look?]at hl
    cases hb:Nat.beq k' k with
    |true=>
     have:=q8 hb;subst this
     simp at hl;subst hl
     exact .inl ⟨id,by simp,e0,h1,h2,h3⟩
    |false=>simp [hb]at hl;exact rec' hl
   ·exact rec' hl
  ·exact rec' hl
theorem nU{h:Shape}{τ σ:Nat→Option Nat}{dt:Nat→Bool}{y:St}{k:Nat}: ∀ {l:List Nat},((∃ id∈h.rw,σ id=some k)∧dt k=false)∨(∃ id∈l,∃ e0 e,τ id=some k∧y.ent id=some e0∧e0.ren τ=some e)→ ∃ e,look? (eF h τ σ dt y l) k=some e
 | [],hk=>by
  simp only [eF]
  rcases hk with⟨⟨id,h1,h2⟩,hd⟩ | ⟨id,h1,_⟩
  ·have hm:k∈(h.rw.filterMap σ).filter fun k=> !dt k:=List.mem_filter.2 ⟨List.mem_filterMap.2 ⟨id,h1,h2⟩,by simp [hd]⟩
   have eI: ∀ l:List Nat,k∈l→ ∃ e,look? (l.map fun k=>(k,Entry.gone)) k=some e:=by
    intro l
    induction l with
    |nil=>intro h;cases h
    |cons p r ih=>
     intro h
     simp only [w8,look?]
     cases hb:Nat.beq p k with
     |true=>exact⟨_,rfl⟩
     |false=>
      rcases List.mem_cons.1 h with rfl | h
      ·simp at hb
      ·exact ih h
   exact eI _ hm
  ·cases h1
 |id::r,hk=>by
  simp only [eF]
  have up: ∀ (p:Nat×Entry),(∃ e,look? (eF h τ σ dt y r) k=some e)→ ∃ e,look? (p::eF h τ σ dt y r) k=some e:=fun p ⟨e,he⟩=>by
   simp only [look?]
   cases Nat.beq p.1 k with
   |true=>exact⟨_,rfl⟩
   |false=>exact⟨e,he⟩
  rcases hk with hk | ⟨i,hi,e0,e,h1,h2,h3⟩
  ·have:=nU (h:=h) (τ:=τ) (dt:=dt) (y:=y) (l:=r) (.inl hk)
   split
   ·split
    ·exact up _ this
    ·exact this
   ·exact this
  ·rcases List.mem_cons.1 hi with rfl | hi
   ·simp only [h1,h2,h3]
    exact⟨e,look?_same _ _ _⟩
   ·have:=nU (h:=h) (τ:=τ) (σ:=σ) (dt:=dt) (y:=y) (l:=r) (.inr ⟨i,hi,e0,e,h1,h2,h3⟩)
    split
    ·split
     ·exact up _ this
     ·exact this
    ·exact this
theorem ov: ∀ {L:List Nat} {i:Nat},i∈L→ ∃ j,iI L i=some j
 | [],i,h=>by cases h
 |p::r,i,h=>by
  simp only [iI]
  cases hb:Nat.beq p i with
  |true=>exact⟨0,rfl⟩
  |false=>
   rcases List.mem_cons.1 h with rfl | h
   ·simp at hb
   ·obtain⟨j,hj⟩:=ov h;exact⟨j + 1,by simp [hj]⟩
theorem oN{n k i j v:Nat}(h:(ac n k)[i]? =some v)(h':(ac n k)[j]? =some v):i=j:=by
 have hi:=(zQ.1 h).1
 have hj:=(zQ.1 h').1
 rw [iz]at hi hj
 rw [eH hi]at h
 rw [eH hj]at h'
 have:=Option.some.inj (h.trans h'.symm)
 omega
theorem Hp.behind{h:Shape}{B':Base}{Jx0 Jy:St}{ρ2:Nm}{w':World}(hp:Hp B ρ s.ent s.used w)(hx:SubR σ Jx0 s)(hf0:Fits h.ids Jx0)(hfy:FitsX h Jy)
  (hfresh: ∀ i∈h.fresh s,s.used i=false) (hw0:B'.w0=w) (eQ:B'.mem=memBig w s.ent ρ (h.ids.filterMap σ)) (hMy:Hp B' ρ2 Jy.ent Jy.used w')
  (fc: ∀ id∈h.fx,∀ k,σ id=some k→ρ2 id=ρ k) (hold: ∀ b o,ρ.mem b=some o→ρ2.mem b=some o) (aS: ∀ b o,ρ2.mem b=some o→ρ.mem b=some o∨(B'.mem b=none∧unf o))
  (hren: ∀ id∈h.idsX,∀ e,Jy.ent id=some e→ ∃ e',e.ren (h.tau σ s)=some e'):
  ∃ ρ':Nm,Ext B s.used ρ ρ'∧(∀ id∈h.idsX,∀ k,h.tau σ s id=some k→ρ' k=ρ2 id∧ag s.used (h.fresh s) k=true)∧
   Hp B ρ' (ae s.ent (eF h (h.tau σ s) σ (fun k=>isD (s.ent k)) Jy h.idsX)) (ag s.used (h.fresh s)) w':=by
 have hσ: ∀ id∈h.ids,∃ k e,σ id=some k∧s.ent k=some e:=fun id aR=>by
  obtain⟨e,he⟩:=hf0.hsome id (gc aR)
  obtain⟨k,e',h1,h2,_⟩:=hx.ent id e he
  exact⟨k,e',h1,h2⟩
 let ρ':Nm:=⟨fun k=>bif s.used k then ρ.nm k else match iI (h.fresh s) k with | some i=>(match h.out[i]? with | some id=>ρ2.nm id | none=> .nilFunc) | none=> .nilFunc,ρ2.mem,
  fun k=>match look? (eF h (h.tau σ s) σ (fun k=>isD (s.ent k)) Jy h.idsX) k with | some _=>(if hh: ∃ id,id∈h.idsX∧h.tau σ s id=some k then ρ2.fp (Classical.choose hh)else ρ.fp k) | none=>ρ.fp k⟩
 have hold': ∀ k,s.used k=true→ρ' k=ρ k:=fun k hk=>by simp only [Nm.of,ρ',hk,cond_true]
 have hτ: ∀ id∈h.idsX,∀ k,h.tau σ s id=some k→ρ' k=ρ2 id∧ag s.used (h.fresh s) k=true:=by
  intro id aR k hk
  unfold Shape.tau at hk
  cases hm:memN h.fx id with
  |true=>
   simp only [hm,cond_true]at hk
   obtain⟨k',e,h1,h2⟩:=hσ id (List.mem_append_left _ (SX.memN_mem.1 hm))
   rw [hk]at h1;cases h1
   have hu:=(hp.he k e h2).2.1
   exact⟨by rw [hold' k hu,fc id (SX.memN_mem.1 hm) k hk],aD _ hu⟩
  |false=>
   simp only [hm,cond_false]at hk
   split at hk
   ·rename_i i hi
    have hkm:=List.mem_of_getElem? hk
    have hu:=hfresh k hkm
    obtain⟨i',hi'⟩:=ov hkm
    have:i'=i:=oN (dD hi') hk
    subst this
    refine⟨?_,ct hkm⟩
    simp only [Nm.of,ρ',hu,cond_false,hi',dD hi]
   ·cases hk
 have hτinj: ∀ id∈h.idsX,∀ id'∈h.idsX,∀ k,h.tau σ s id=some k→h.tau σ s id'=some k→id=id':=by
  have side: ∀ id∈h.idsX,∀ k,h.tau σ s id=some k→(σ id=some k∧s.used k=true)∨(s.used k=false∧ ∃ i:Nat,h.out[i]? =some id∧(h.fresh s)[i]? =some k):=by
   intro id aR k hk
   unfold Shape.tau at hk
   cases hm:memN h.fx id with
   |true=>
    simp only [hm,cond_true]at hk
    obtain⟨k',e,h1,h2⟩:=hσ id (List.mem_append_left _ (SX.memN_mem.1 hm))
    rw [hk]at h1;cases h1
    exact .inl ⟨hk,(hp.he k e h2).2.1⟩
   |false=>
    simp only [hm,cond_false]at hk
    split at hk
    ·rename_i i hi
     exact .inr ⟨hfresh k (List.mem_of_getElem? hk),i,dD hi,hk⟩
    ·cases hk
  intro id aR id' hid' k hk hk'
  rcases side id aR k hk with⟨a1,a2⟩ | ⟨a1,i,a2,a3⟩ <;> rcases side id' hid' k hk' with⟨b1,b2⟩ | ⟨b1,j,b2,b3⟩
  ·exact hx.inj id id' k a1 b1
  ·rw [a2]at b1;cases b1
  ·rw [b2]at a1;cases a1
  ·have:=oN a3 b3
   subst this
   rw [a2]at b2;exact Option.some.inj b2
 have hfpk: ∀ id∈h.idsX,∀ k e,h.tau σ s id=some k→look? (eF h (h.tau σ s) σ (fun k=>isD (s.ent k)) Jy h.idsX) k=some e→ρ'.fp k=ρ2.fp id:=by
  intro id aR k e hk hl
  have hh: ∃ id,id∈h.idsX∧h.tau σ s id=some k:=⟨id,aR,hk⟩
  show (match look? (eF h (h.tau σ s) σ (fun k=>isD (s.ent k)) Jy h.idsX) k with | some _=>(if hh: ∃ id,id∈h.idsX∧h.tau σ s id=some k then ρ2.fp (Classical.choose hh)else ρ.fp k) | none=>ρ.fp k)=_
  rw [hl]
  simp only [dif_pos hh]
  rw [hτinj _ (Classical.choose_spec hh).1 id aR k (Classical.choose_spec hh).2 hk]
 have fl: ∀ b,pB s.ent ρ (h.ids.filterMap σ) b→Was s.ent ρ (eF h (h.tau σ s) σ (fun k=>isD (s.ent k)) Jy h.idsX) b:=by
  rintro b ⟨k,hk,e,he,hb⟩
  obtain⟨id,aR,hks⟩:=List.mem_filterMap.1 hk
  have: ∃ e',look? (eF h (h.tau σ s) σ (fun k=>isD (s.ent k)) Jy h.idsX) k=some e':=by
   refine nU ?_
   rcases w7.1 aR with hf | hr
   ·right
    have hidx:id∈h.idsX:=List.mem_append_left _ hf
    obtain⟨e0,he0⟩:=hfy.hsome id hf
    obtain⟨e',he'⟩:=hren id hidx e0 he0
    exact⟨id,hidx,e0,e',by simp only [Shape.tau,gc hf,cond_true];exact hks,he0,he'⟩
   ·refine .inl ⟨⟨id,hr,hks⟩,?_⟩
    rw [he]
    cases e with
    |box T cs=>rfl
    |row own e1 t xs=>cases own with
     |true=>rfl
     |false=>simp [Entry.ob]at hb
    |tree e1 t xs ho=>rfl
    |wk e1 t xs=>rfl
    |gone=>rfl
  obtain⟨e',he'⟩:=this
  exact⟨k,e,e',he,hb,he'⟩
 have hBnone: ∀ b,B'.mem b=none→B.mem b=none:=fun b hb=>by
  rw [eQ]at hb
  rcases fZ hb with⟨i,_,e,he,hb⟩ | hge
  ·exact(Entry.ob_lt (hp.he i e he).1 hb).2.1
  ·cases hm:B.mem b with
   |none=>rfl
   |some o=>have:=(Array.getElem?_eq_some_iff.1 (hp.hf.mem _ _ hm)).1;omega
 have jb: ∀ k e,look? (eF h (h.tau σ s) σ (fun k=>isD (s.ent k)) Jy h.idsX) k=some e→(∃ id∈h.idsX,∃ e0,h.tau σ s id=some k∧Jy.ent id=some e0∧e0.ren (h.tau σ s)=some e∧ρ'.fp k=ρ2.fp id∧e.ob ρ' k=e0.ob ρ2 id)∨(e= .gone∧s.used k=true):=by
  intro k e hl
  rcases rj hl with⟨id,aR,e0,h1,h2,h3⟩ | ⟨⟨id,aR,h1⟩,h2⟩
  ·have hq:=(hτ id aR k h1).1
   have hf:=hfpk id aR k e h1 hl
   refine .inl ⟨id,aR,e0,h1,h2,h3,hf,?_⟩
   cases e0 with
   |box T cs=>simp only [Entry.ren,q9]at h3;obtain⟨cs',_,rfl⟩:=h3;simp only [Entry.ob,hq]
   |row own e t xs=>simp only [Entry.ren,w3]at h3;subst h3;exact oy hq
   |tree e t xs ho=>
    cases ho with
    |none=>simp only [Entry.ren,w3]at h3;subst h3;simp only [Entry.ob,hq,hf]
    |some q=>simp only [Entry.ren,q9]at h3;obtain⟨cs',_,rfl⟩:=h3;simp only [Entry.ob,hq,hf]
   |wk e t xs=>simp only [Entry.ren,w3]at h3;subst h3;simp only [Entry.ob,hq]
   |gone=>simp only [Entry.ren,w3]at h3;subst h3;rfl
  ·obtain⟨k',e',h3,h4⟩:=hσ id (w6 _ aR)
   rw [h1]at h3;cases h3
   exact .inr ⟨h2,(hp.he k e' h4).2.1⟩
 have hUJ: ∀ i,Jy.used i=true→i∈h.idsX:=hfy.hused
 have kd:Chg w w' (pB s.ent ρ (h.ids.filterMap σ)):=by
  have hf:=hMy.hf
  refine⟨by rw [← hw0];exact hf.os,by rw [← hw0];exact hf.tape,by rw [← hw0];exact hf.output,by rw [← hw0];exact hf.size,fun k hk hX=> ?_⟩
  have:memBig w s.ent ρ (h.ids.filterMap σ) k=w.heap[k]? :=by unfold memBig;rw [if_neg hX]
  rw [Array.getElem?_eq_getElem hk]at this ⊢
  exact hf.mem k _ (by rw [eQ];exact this)
 have eI:=hp.chg (ρ':=ρ') (es:=eF h (h.tau σ s) σ (fun k=>isD (s.ent k)) Jy h.idsX) (new:=h.fresh s) kd hold' hold fl
  (fun b o hb=>(aS b o hb).imp (fun h=>h) fun hb'=>⟨hMy.hf.dat b o hb,hb'.2,(fZ (by rw [← eQ];exact hb'.1)).symm.imp (fun h=>h) (fl b)⟩)
  (fun k e hl=>by
   rcases jb k e hl with⟨id,aR,e0,h1,h2,h3,hf0,_⟩ | ⟨rfl,hu⟩
   ·obtain⟨g1,_,g3⟩:=hMy.he id e0 h2
    obtain⟨q1,q2⟩:=hτ id aR k h1
    have hc: ∀ i j,Jy.used i=true→h.tau σ s i=some j→ρ' j=ρ2 i:=fun i j hi hj=>(hτ i (hUJ i hi) j hj).1
    refine⟨?_,q2,?_⟩
    ·cases e0 with
     |box T cs=>
      simp only [Entry.ren,q9]at h3
      obtain⟨cs',fX,rfl⟩:=h3
      obtain⟨b,k1,k2,k3,k4⟩:=g1
      refine⟨b,by rw [q1];exact k1,?_,hBnone b k3,k4⟩
      rw [ee fX fun x hx y hy=>Cell.ren_conc hc (g3 x hx) hy]
      exact k2
     |row own e1 t xs=>
      simp only [Entry.ren,w3]at h3;subst h3
      cases own with
      |false=>simp only [Entry.holds];rw [q1];exact g1
      |true=>
       obtain⟨cs,k1,k2,k3⟩:=g1
       simp only [Entry.holds];rw [q1]
       exact⟨cs,k1,k2,fun b hb=>⟨hBnone b (k3 b hb).1,(k3 b hb).2⟩⟩
     |tree e1 t xs ho=>exact(iV (U:=Jy.used) g1 h3 q1 hf0 (fun b hb=>⟨hBnone b (Entry.ob_lt g1 hb).2.1,(Entry.ob_lt g1 hb).2.2⟩) g3 hc).1
     |wk e1 t xs=>
      simp only [Entry.ren,w3]at h3;subst h3
      obtain⟨k1,k2,k3⟩:=g1
      simp only [Entry.holds];rw [q1]
      exact⟨k1,k2,fun b hb=>⟨hBnone b (k3 b hb).1,(k3 b hb).2⟩⟩
     |gone=>simp only [Entry.ren,w3]at h3;subst h3;trivial
    ·cases e0 with
     |box T cs=>
      simp only [Entry.ren,q9]at h3
      obtain⟨cs',fX,rfl⟩:=h3
      refine di fX fun x hx y hy=> ?_
      have hxu:=SX.ids_inU (g3 x hx)
      cases x with
      |val v=>simp [Cell.ren]at hy;subst hy;trivial
      |ptr i off=>simp only [Cell.ren,q9]at hy;obtain⟨j,hj,rfl⟩:=hy;exact(hτ i (hUJ i (hxu i (by simp [Cell.ids]))) j hj).2
      |ref i=>simp only [Cell.ren,q9]at hy;obtain⟨j,hj,rfl⟩:=hy;exact(hτ i (hUJ i (hxu i (by simp [Cell.ids]))) j hj).2
      |el i z q off=>simp only [Cell.ren,q9]at hy;obtain⟨j,hj,rfl⟩:=hy;exact(hτ i (hUJ i (hxu i (by simp [Cell.ids]))) j hj).2
      |vw i z q=>simp only [Cell.ren,q9]at hy;obtain⟨j,hj,rfl⟩:=hy;exact(hτ i (hUJ i (hxu i (by simp [Cell.ids]))) j hj).2
      |clo f caps=>
       simp only [Cell.ren,q9]at hy
       obtain⟨js,hj,rfl⟩:=hy
       exact di hj fun i hi j oa=>(hτ i (hUJ i (hxu i hi)) j oa).2
      |bnd f vs=>
       simp only [Cell.ren,q9]at hy
       obtain⟨js,hj,rfl⟩:=hy
       exact jJ hj fun i hi j oa=>(hτ i (hUJ i (hxu i hi)) j oa).2
     |row own e1 t xs=>simp only [Entry.ren,w3]at h3;subst h3;trivial
     |tree e1 t xs ho=>
      cases ho with
      |none=>simp only [Entry.ren,w3]at h3;subst h3;trivial
      |some q=>
      simp only [Entry.ren,q9]at h3
      obtain⟨cs',fX,rfl⟩:=h3
      refine di fX fun x hx y hy=> ?_
      have hxu:=SX.ids_inU (g3 x hx)
      cases x with
      |val v=>simp [Cell.ren]at hy;subst hy;trivial
      |ptr i off=>simp only [Cell.ren,q9]at hy;obtain⟨j,hj,rfl⟩:=hy;exact(hτ i (hUJ i (hxu i (by simp [Cell.ids]))) j hj).2
      |ref i=>simp only [Cell.ren,q9]at hy;obtain⟨j,hj,rfl⟩:=hy;exact(hτ i (hUJ i (hxu i (by simp [Cell.ids]))) j hj).2
      |el i z q off=>simp only [Cell.ren,q9]at hy;obtain⟨j,hj,rfl⟩:=hy;exact(hτ i (hUJ i (hxu i (by simp [Cell.ids]))) j hj).2
      |vw i z q=>simp only [Cell.ren,q9]at hy;obtain⟨j,hj,rfl⟩:=hy;exact(hτ i (hUJ i (hxu i (by simp [Cell.ids]))) j hj).2
      |clo f caps=>
       simp only [Cell.ren,q9]at hy
       obtain⟨js,hj,rfl⟩:=hy
       exact di hj fun i hi j oa=>(hτ i (hUJ i (hxu i hi)) j oa).2
      |bnd f vs=>
       simp only [Cell.ren,q9]at hy
       obtain⟨js,hj,rfl⟩:=hy
       exact jJ hj fun i hi j oa=>(hτ i (hUJ i (hxu i hi)) j oa).2
     |wk e1 t xs=>simp only [Entry.ren,w3]at h3;subst h3;trivial
     |gone=>simp only [Entry.ren,w3]at h3;subst h3;trivial
   ·exact⟨trivial,aD _ hu,trivial⟩)
  (fun k e b hl hb=>by
   rcases jb k e hl with⟨id,aR,e0,h1,h2,h3,_,h4⟩ | ⟨rfl,_⟩
   ·rw [h4]at hb
    have:=(Entry.ob_lt (hMy.he id e0 h2).1 hb).2.1
    rw [eQ]at this
    exact(fZ this).symm.imp (fun h=>h) (fl b)
   ·simp [Entry.ob]at hb)
  (fun k k' e e' b hl hl' hb hb'=>by
   rcases jb k e hl with⟨id,aR,e0,h1,h2,h3,_,h4⟩ | ⟨rfl,_⟩
   ·rcases jb k' e' hl' with⟨id',hid',e0',h1',h2',h3',_,h4'⟩ | ⟨rfl,_⟩
    ·rw [h4]at hb;rw [h4']at hb'
     have:=hMy.hi id id' e0 e0' b h2 h2' hb hb'
     subst this
     rw [h1]at h1';exact Option.some.inj h1'
    ·simp [Entry.ob]at hb'
   ·simp [Entry.ob]at hb)
  (fun k _ hl=>by
   show (match look? (eF h (h.tau σ s) σ (fun k=>isD (s.ent k)) Jy h.idsX) k with | some _=>(if hh: ∃ id,id∈h.idsX∧h.tau σ s id=some k then ρ2.fp (Classical.choose hh)else ρ.fp k) | none=>ρ.fp k)=_
   rw [hl])
 exact⟨ρ',eI.1,hτ,eI.2⟩
end
end Go.SX
namespace Go.SX
open Go.RowKit
section
variable{P:Program}{tbl:List (PF P)}{s s' t:St}{W:Nat→Bool}{lf:List (St→R)}{B:Base}{ρ:Nm}{a:Act}{w:World}{post post':Ex→St→Prop}{σ:Nat→Option Nat}
theorem lQ{α β:Type}{f:α→Option β}: ∀ {l:List α},(∀ x∈l,∃ y,f x=some y)→ ∃ r,bP f l=some r
 | [],_=>⟨[],rfl⟩
 |a::l,h=>by
  obtain⟨y,hy⟩:=h a (by simp)
  obtain⟨r,hr⟩:=lQ (l:=l) fun x hx=>h x (by simp [hx])
  exact⟨y::r,by simp [bP,hy,hr]⟩
theorem Cell.ren_some{f:Nat→Option Nat}{c:Cell}(h: ∀ i∈c.ids,∃ j,f i=some j): ∃ c',c.ren f=some c':=by
 cases c with
 |val v=>exact⟨_,rfl⟩
 |ptr id off=>obtain⟨j,hj⟩:=h id (by simp [Cell.ids]);exact⟨_,by simp [Cell.ren,hj];rfl⟩
 |ref id=>obtain⟨j,hj⟩:=h id (by simp [Cell.ids]);exact⟨_,by simp [Cell.ren,hj];rfl⟩
 |el id z i off=>obtain⟨j,hj⟩:=h id (by simp [Cell.ids]);exact⟨_,by simp [Cell.ren,hj];rfl⟩
 |vw id z k=>obtain⟨j,hj⟩:=h id (by simp [Cell.ids]);exact⟨_,by simp [Cell.ren,hj];rfl⟩
 |clo k caps=>obtain⟨js,hj⟩:=lQ (f:=f) (l:=caps) h;exact⟨_,by simp [Cell.ren,hj];rfl⟩
 |bnd k vs=>obtain⟨js,hj⟩:=ox (f:=f) (vs:=vs) h;exact⟨_,by simp [Cell.ren,hj];rfl⟩
theorem Entry.ren_some{f:Nat→Option Nat}{e:Entry}{U:Nat→Bool}(hU:e.inU U)(h: ∀ i,U i=true→ ∃ j,f i=some j): ∃ e',e.ren f=some e':=by
 cases e with
 |box T cs=>
  obtain⟨r,hr⟩:=lQ (f:=Cell.ren f) (l:=cs) fun c hc=>Cell.ren_some fun i hi=>h i (SX.ids_inU (hU c hc) i hi)
  exact⟨_,by simp [Entry.ren,hr];rfl⟩
 |row own e t xs=>exact⟨_,rfl⟩
 |tree e t xs ho=>
  cases ho with
  |none=>exact⟨_,rfl⟩
  |some q=>
   obtain⟨r,hr⟩:=lQ (f:=Cell.ren f) (l:=q.2) fun c hc=>Cell.ren_some fun i hi=>h i (SX.ids_inU (hU c hc) i hi)
   exact⟨_,by simp [Entry.ren,hr];rfl⟩
 |wk e t xs=>exact⟨_,rfl⟩
 |gone=>exact⟨_,rfl⟩
theorem Cell.ren_inU'{f:Nat→Option Nat}{U U':Nat→Bool}(hf: ∀ i j,U i=true→f i=some j→U' j=true){c c':Cell}(hc:c.inU U)(h:c.ren f=some c'):c'.inU U':=by
 cases c with
 |val v=>simp [Cell.ren]at h;subst h;trivial
 |ptr id off=>simp only [Cell.ren,q9]at h;obtain⟨j,hj,rfl⟩:=h;exact hf id j hc hj
 |ref id=>simp only [Cell.ren,q9]at h;obtain⟨j,hj,rfl⟩:=h;exact hf id j hc hj
 |el id z i off=>simp only [Cell.ren,q9]at h;obtain⟨j,hj,rfl⟩:=h;exact hf id j hc hj
 |vw id z k=>simp only [Cell.ren,q9]at h;obtain⟨j,hj,rfl⟩:=h;exact hf id j hc hj
 |clo k caps=>
  simp only [Cell.ren,q9]at h
  obtain⟨js,hj,rfl⟩:=h
  exact di hj fun x hx y hy=>hf x y (hc x hx) hy
 |bnd k vs=>
  simp only [Cell.ren,q9]at h
  obtain⟨js,hj,rfl⟩:=h
  exact jJ hj fun i hi j oa=>hf i j (hc i hi) oa
theorem SV.ren_inU'{f:Nat→Option Nat}{U U':Nat→Bool}(hf: ∀ i j,U i=true→f i=some j→U' j=true){v v':SV}(hc:v.inU U)(h:v.ren f=some v'):v'.inU U':=by
 have eI: ∀ {v v':V1},v.inU U→v.ren f=some v'→v'.inU U':=by
  intro v v' hc h
  simp only [V1.ren,q9]at h
  obtain⟨cs,fX,rfl⟩:=h
  exact di fX fun x hx y hy=>Cell.ren_inU' hf (hc x hx) hy
 cases v with
 |one v=>
  simp only [SV.ren,q9]at h
  obtain⟨u,hu,rfl⟩:=h
  exact eI hc hu
 |tup vs=>
  simp only [SV.ren,q9]at h
  obtain⟨us,hu,rfl⟩:=h
  exact di hu fun x hx y hy=>eI (hc x hx) hy
def lJ(s:St):List Nat→List Nat
 | []=> []
 |l::r=>bif Nat.ble 1000000 l then(match s.look (l - 1000000)with
  |some x=>x.v.ids++lJ s r
  |none=>lJ s r)else lJ s r
def wT(l:List Nat)(s:St):St:= { s with ent:=ae s.ent (eG s.ent (iZ s.ent l++lJ s l)) }
theorem wh{l:List Nat}(hM:Mdl B ρ s a w): ∃ ρ':Nm,Ext B s.used ρ ρ'∧Mdl B ρ' (wT l s) a w:=by
 obtain⟨ρ',n1,f1,x1,h1,_⟩:=Hp.freezeA hM.hp (iZ s.ent l++lJ s l)
 refine⟨ρ',x1,hM.hd,hM.hn,fun k x hk=> ?_,hM.hg,hM.hu,h1,hM.hl⟩
 rw [hM.hs k x hk,SS.at_congr (U:=s.used) x1.nm (hM.hu k x hk) (fun _ _ _=>rfl)]
def R.mapS(g:St→St):R→R
 | .none=> .none
 | .done x s=> .done x (g s)
 | .need nd r=> .need nd (r.mapS g)
 | .ite b t e=> .ite b (t.mapS g) (e.mapS g)
theorem R.sat_mapS{g:St→St}: ∀ {r:R},(r.mapS g).sat post→r.sat fun x s=>post x (g s)
 | .none,h=>h
 | .done _ _,h=>h
 | .need _ _,h=>⟨h.1,R.sat_mapS h.2⟩
 | .ite _ _ _,h=>⟨fun hb=>R.sat_mapS (h.1 hb),fun hb=>R.sat_mapS (h.2 hb)⟩
def R.frzB(l:List Nat)(r:R):R:=
 match l with
 | []=>r
 |_::_=>r.mapS (wT l)
theorem vQ{l:List Nat}{c:Code}{r:R}(hu:r.all fun _ s'=> ∀ id,s.used id=true→s'.used id=true)(hr: ∀ post,r.sat post→Sat P B c s post)(h:(r.frzB l).sat post):Sat P B c s post:=by
 cases l with
 |nil=>exact hr _ h
 |cons i l=>
  intro ρ a w hM
  refine wp_mono (hr _ (R.sat_and (R.sat_mapS h) hu) ρ a w hM) fun e a' w' ⟨x,s',ρ1,he,hx,hM',hp,hm⟩=> ?_
  obtain⟨ρ2,x2,h2⟩:=wh (l:=i::l) hM'
  exact⟨x,wT (i::l) s',ρ2,he,hx.trans x2 hm,h2,hp⟩
theorem Unch.same(s:St):Unch s s:=⟨fun _ _=> .inl rfl,fun _ _=>rfl,fun _ h=>h,fun _ h=>h,fun _ h=>h⟩
theorem LoopOk.mk'(cq:P.follows .mixedOrders=true){b:Code}{h:Shape}{X Y:Type}{J:X→St}{Jx:Ex→Y→St}{lf:List (St→R)}(hD: ∀ k∈h.D,W k=true)
  (hl:LOk P (memN h.D) lf b) (fz:List Nat) (Inv:Nat→X→Prop) (fin:X→Ex→Y→Prop) (hJ: ∀ x,Fits h.ids (J x)) (hJx: ∀ q z,FitsX h (Jx q z))
  (round: ∀ m x,Inv m x→((gi P tbl (memN h.D) lf b (J x)).frzB fz).sat fun r s'=>match r with
   | .normal=> ∃ m' x' σ,m' < m∧Inv m' x'∧(∀ q z,fin x' q z→fin x q z)∧SubR σ (J x') s'∧(∀ id,memN h.fx id=true→σ id=some id)
   |r=> ∃ z σ,fin x r z∧SubR σ (Jx r z) s'∧(∀ id,memN h.fx id=true→σ id=some id))
  (F:St→R) (hF: ∀ s,F s= .none∨ ∃ nd x σ Ro,F s= .need nd Ro∧(Ro.all fun _ s'=>Unch s s')∧SubR σ (J x) s∧(h.fresh s).all (fun i=> !s.used i)=true∧
   ((∀ n∈nd,n=true)→(∃ m,Inv m x)∧ ∀ q z,fin x q z→ ∀ post:Ex→St→Prop,Ro.sat post→post q (qJ h σ (Jx q z) s))):
  LoopOk P W F b:=by
 refine⟨fun B s post hBW hp ρ a w hM=> ?_,fun s=> ?_⟩
 ·rcases hF s with h0 | ⟨nd,x,σ,Ro,h0,_,mj,hfr,ba⟩
  ·rw [h0]at hp;exact hp.elim
  ·rw [h0]at hp
   obtain⟨hn,hp⟩:=hp
   obtain⟨⟨m,hInv⟩,huniq⟩:=ba hn
   have hfresh: ∀ i∈h.fresh s,s.used i=false:=fun i hi=>by simpa using List.all_eq_true.1 hfr i hi
   have hWn: ∀ k,memN h.D k=true→k < B.n:=fun k hk=>(B.hW k (by rw [hBW];exact hD k (SX.memN_mem.1 hk))).1
   let B':Base:=⟨B.n,w,memBig w s.ent ρ (h.ids.filterMap σ),fun k=>bif memN h.D k then none else a.tmps[k]?,memN h.D,fun k hk=>⟨hWn k hk,by simp [hk]⟩⟩
   have hM0:=mj.mdl hM
   have hownJ: ∀ id e,(J x).ent id=some e→ ∀ bl∈e.ob (my σ ρ) id,memBig w s.ent ρ (h.ids.filterMap σ) bl=none:=by
    intro id e he bl hb
    obtain⟨k,e',h1,h2,h3,h4,_⟩:=mj.ent id e he
    refine qk ⟨k,List.mem_filterMap.2 ⟨id,SX.memN_mem.1 (by rw [← (hJ x).hused id];exact h4),h1⟩,e',h2,?_⟩
    cases e with
    |box T cs=>simp only [Entry.ren,q9]at h3;obtain⟨cs',_,rfl⟩:=h3;simp only [Entry.ob,bQ h1]at hb ⊢;exact hb
    |row own e t xs=>simp only [Entry.ren,w3]at h3;subst h3;rw [oy (bQ h1)]at hb;exact hb
    |tree e t xs ho=>rw [(rC h3 (hM.he k e' h2).1 (bQ h1) (nD h1) rfl (fun i j oa=>bQ oa)).2]at hb;exact hb
    |wk e t xs=>simp only [Entry.ren,w3]at h3;subst h3;simp only [Entry.ob,bQ h1]at hb ⊢;exact hb
    |gone=>simp only [Entry.ren,w3]at h3;subst h3;exact hb
   have hM':Mdl B' (my σ ρ) (J x) a w:=by
    refine⟨hM0.hd,hM0.hn,hM0.hs,hM0.hg,hM0.hu,⟨fun id e he=> ?_,hM0.hp.hi,rfl,rfl,rfl,Nat.le_refl _,fun bl o hb=>oR hb,hM0.hp.hf.dat,hM0.hp.hf.gl⟩,fun k v hv=> ?_⟩
    ·obtain⟨h1,h2,h3⟩:=hM0.he id e he
     refine⟨?_,h2,h3⟩
     have pu:=hownJ id e he
     cases e with
     |box T cs=>
      obtain⟨bl,k1,k2,k3,k4⟩:=h1
      exact⟨bl,k1,k2,pu bl (by simp [Entry.ob,k1,az]),k4⟩
     |row own e0 t xs=>
      cases own with
      |false=>exact h1
      |true=>
       obtain⟨cs,k1,k2,k3⟩:=h1
       exact⟨cs,k1,k2,fun bl hb=>⟨pu bl hb,(k3 bl hb).2⟩⟩
     |tree e0 t xs ho=>
      obtain⟨cs,Ls,k1,k2,k3,k4,k5⟩:=h1
      exact⟨cs,Ls,k1,k2,k3,k4,fun bl hb=>⟨pu bl hb,(k5 bl hb).2⟩⟩
     |wk e0 t xs=>
      obtain⟨k1,k2,k3⟩:=h1
      exact⟨k1,k2,fun bl hb=>⟨pu bl hb,(k3 bl hb).2⟩⟩
     |gone=>trivial
    ·simp only [B']at hv
     cases ho:memN h.D k with
     |true=>simp [ho]at hv
     |false=>simpa [ho] using hv
   have hfxU: ∀ x' id,memN h.fx id=true→(J x').used id=true:=fun x' id aR=>by
    rw [(hJ x').hused id];exact gc (List.mem_append_left _ (SX.memN_mem.1 aR))
   have hloop:=Sat.loop (P:=P) (B:=B') (post:=fun r s'=> ∃ z σ,fin x r z∧SubR σ (Jx r z) s'∧(∀ id,memN h.fx id=true→σ id=some id)) (memN h.fx) (fun m s=> ∃ x',s=J x'∧Inv m x'∧ ∀ q z,fin x' q z→fin x q z)
    (fun m s ⟨x',hs,_,_⟩ id aR=>by rw [hs];exact hfxU x' id aR)
    (fun m s ⟨x',hs,hI,hfin⟩=>by
     subst hs
     refine vQ (nX lf b (J x') hl) (fun post h=>cJ (tbl:=tbl) cq lf b (J x') post hl h) (R.sat_mono (fun r s' hr=> ?_) (round m x' hI))
     cases r with
     |normal=>
      obtain⟨m',x'',σ',bI,hI',hf',hsub',hσ'⟩:=hr
      exact⟨m',J x'',σ',bI,⟨x'',rfl,hI',fun q z hz=>hfin q z (hf' q z hz)⟩,hsub',hσ'⟩
     |exit id=>obtain⟨z,σ',hz,hs⟩:=hr;exact⟨z,σ',hfin _ z hz,hs⟩
     |ret=>obtain⟨z,σ',hz,hs⟩:=hr;exact⟨z,σ',hfin _ z hz,hs⟩)
    m (J x) ⟨x,rfl,hInv,fun _ _ h=>h⟩ hM'
   refine wp_mono hloop fun e a' w' ⟨r,s',ρ1,he,dH,hM2,y,σ1,hy,hsub2,hσ1⟩=> ?_
   have hpp:=huniq r y hy post hp
   have hMy:=hsub2.mdl hM2
   have htau: ∀ i,(Jx r y).used i=true→ ∃ j,h.tau σ s i=some j:=fun i hi=>by
    have hi:=(hJx r y).hused i hi
    unfold Shape.tau
    cases hm:memN h.fx i with
    |true=>
     obtain⟨e,he⟩:=(hJ x).hsome i (gc (List.mem_append_left _ (SX.memN_mem.1 hm)))
     obtain⟨k,_,h1,_⟩:=mj.ent i e he
     exact⟨k,by simpa using h1⟩
    |false=>
     simp only [cond_false]
     rcases w7.1 hi with hh | hh
     ·rw [gc hh]at hm;cases hm
     ·obtain⟨j,hj⟩:=ov hh
      have bI:=(zQ.1 (dD hj)).1
      exact⟨_,by simp only [hj];exact eH bI⟩
   obtain⟨ρ',hx',hτ,hp'⟩:=hM.hp.behind (B':=B') mj (hJ x) (hJx r y) hfresh rfl rfl hMy.hp
    (fun id aR k hk=>by
     have hmf:=gc aR
     rw [bQ (hσ1 id hmf),dH.nm id hmf,bQ hk])
    (fun bl o hb=>dH.old bl o hb) (fun bl o hb=>dH.new bl o hb)
    (fun id aR e he=>Entry.ren_some (hMy.he id e he).2.2 htau)
   refine⟨r,qJ h σ (Jx r y) s,ρ',he,hx',?_,hpp⟩
   have hslot: ∀ k,memN h.D k=false→ ∀ v,a.tmps[k]? =some v→a'.tmps[k]? =some v:=fun k hk v hv=>
    hM2.hl k v (by simp only [B',hk,cond_false];exact hv)
   have look: ∀ k z,(qJ h σ (Jx r y) s).look k=some z→z.g=none∧a'.tmps[k]? =some (z.v.conc ρ')∧z.v.inU (ag s.used (h.fresh s)):=by
    intro k z hz
    simp only [qJ]at hz
    cases hk:memN h.D k with
    |true=>
     simp only [hk,cond_true]at hz
     split at hz
     ·rename_i x0 hx0
      simp only [q9]at hz
      obtain⟨v,hv,rfl⟩:=hz
      have hs:=hMy.hs k x0 hx0
      have hu:=hMy.hu k x0 hx0
      refine⟨rfl,?_,?_⟩
      ·rw [hs]
       simp only [SS.at,(hJx r y).hg k x0 hx0]
       rw [SV.ren_conc (U:=(Jx r y).used) (fun i j hi hj=>(hτ i ((hJx r y).hused i hi) j hj).1) hu hv]
      ·refine SV.inU_mono (U:=fun j=>ag s.used (h.fresh s) j) (fun _ h=>h) ?_
       exact SV.ren_inU' (fun i j hi hj=>(hτ i ((hJx r y).hused i hi) j hj).2) hu hv
     ·cases hz
    |false=>
     simp only [hk,cond_false]at hz
     have hMc:=hM.clean
     have hs:=hMc.hs k z hz
     have hg:z.g=none:=by
      simp only [St.clean]at hz
      split at hz
      ·cases hz;rfl
      ·cases hz
     have hu:=hMc.hu k z hz
     refine⟨hg,?_,SV.inU_mono aD hu⟩
     simp only [SS.at,hg]at hs
     rw [SV.conc_congr hx'.nm hu]
     exact hslot k hk _ hs
   refine⟨hM2.hd,hM2.hn,fun k z hz=> ?_,fun k z j bb hz hj=> ?_,fun k z hz=>(look k z hz).2.2,hp',fun k v hv=> ?_⟩
   ·obtain⟨g0,h0,_⟩:=look k z hz
    rw [h0];simp only [SS.at,g0]
   ·rw [(look k z hz).1]at hj;cases hj
   ·refine hslot k ?_ v (hM.hl k v hv)
    cases hk:memN h.D k with
    |false=>rfl
    |true=>
     have:=(B.hW k (by rw [hBW];exact hD k (SX.memN_mem.1 hk))).2
     rw [this]at hv;cases hv
 ·rcases hF s with h0 | ⟨nd,x,σ,Ro,h0,io,_⟩
  ·rw [h0];trivial
  ·rw [h0];exact io
end
end Go.SX
namespace Go.SX
open Go.RowKit
def qQ(L:List (Nat×SV))(E:List (Nat×Entry))(next:Nat):St:=
 {look:=fun k=>match look? L k with | some v=>some ⟨none,v⟩ | none=>none
  ent:=look? E
  used:=memN (bH E)
  wr:=fun _=>false,next,log:= [],logE:= [] }
inductive RV where
 |none
 |done (x:Ex) (l:List (Option SS)) (e:List (Option Entry))
 |need (nd:List Bool) (r:RV)
 |ite (b:Bool) (t e:RV)
def RV.sat(post:Ex→List (Option SS)→List (Option Entry)→Prop):RV→Prop
 | .none=>False
 | .done x l e=>post x l e
 | .need nd r=>(∀ b∈nd,b=true)∧r.sat post
 | .ite b t e=>(b=true→t.sat post)∧(b=false→e.sat post)
def Entry.inUb(U:Nat→Bool):Entry→Bool
 | .box _ cs=>cs.all (Cell.inUb U)
 | .tree _ _ _ (some (_,cs))=>cs.all (Cell.inUb U)
 |_=>true
theorem Entry.inUb_sound{U:Nat→Bool}{e:Entry}(h:e.inUb U=true):e.inU U:=by
 cases e with
 |box T cs=>
  simp only [Entry.inUb,List.all_eq_true]at h
  exact fun c hc=>Cell.inUb_sound (h c hc)
 |tree e t xs ho=>
  cases ho with
  |none=>trivial
  |some q=>
   simp only [Entry.inUb,List.all_eq_true]at h
   exact fun c hc=>Cell.inUb_sound (h c hc)
 |_=>trivial
theorem look?_get{α:Type}: ∀ {L:List (Nat×α)} {k:Nat} {v:α},look? L k=some v→(k,v)∈L
 | [],_,_,h=>by simp [look?]at h
 |p::r,k,v,h=>by
  simp only [look?]at h
  cases hb:Nat.beq p.1 k with
  |true=>simp [hb]at h;rw [← h,← q8 hb];simp
  |false=>simp [hb]at h;exact List.mem_cons_of_mem _ (look?_get h)
theorem qh{α β:Type}{f g:α→β}: ∀ {L:List α},L.map f=L.map g→ ∀ p∈L,f p=g p
 | [],_,p,hp=>by simp at hp
 |q::r,h,p,hp=>by
  simp only [w8,List.cons.injEq]at h
  rcases List.mem_cons.1 hp with rfl | hp
  ·exact h.1
  ·exact qh h.2 p hp
theorem look?_inj: ∀ {L:List (Nat×Nat)},lm (L.map (·.2))=true→ ∀ id id' j,look? L id=some j→look? L id'=some j→id=id'
 | [],_,_,_,_,h,_=>by simp [look?]at h
 |p::r,hn,id,id',j,h,h'=>by
  simp only [w8,lm,w4,Bool.not_eq_true']at hn
  simp only [look?]at h h'
  have out: ∀ k,look? r k=some j→p.2=j→False:=fun k hk e=>by
   have:=List.mem_map_of_mem (f:=fun q:Nat×Nat=>q.2) (look?_get hk)
   simp only at this
   rw [gc (by rw [e];exact this)]at hn
   cases hn.1
  cases hb:Nat.beq p.1 id with
  |true=>
   simp [hb]at h
   cases hb':Nat.beq p.1 id' with
   |true=>exact(q8 hb).symm.trans (q8 hb')
   |false=>simp [hb']at h';exact(out id' h' h).elim
  |false=>
   simp [hb]at h
   cases hb':Nat.beq p.1 id' with
   |true=>simp [hb']at h';exact(out id h h').elim
   |false=>simp [hb']at h';exact look?_inj hn.2 id id' j h h'
theorem wC{L:List (Nat×SV)}{E:List (Nat×Entry)}{next:Nat}{s:St}(σL:List (Nat×Nat))(h1:L.map (fun p=>s.look p.1)=L.map (fun p=>(p.2.ren (look? σL)).map (SS.mk none)))
  (h2:E.map (fun p=>(look? σL p.1).bind s.ent)=E.map (fun p=>p.2.ren (look? σL)))
  (hL:L.all (fun p=>(p.2.ren (look? σL)).isSome&&p.2.inUb (memN (bH E)))=true) (hE:E.all (fun p=>(p.2.ren (look? σL)).isSome&&p.2.inUb (memN (bH E)))=true)
  (hn:lm (σL.map (·.2))=true):SubR (look? σL) (qQ L E next) s:=by
 refine⟨fun k x hx=> ?_,fun id e he=> ?_,look?_inj hn⟩
 ·simp only [qQ]at hx
  split at hx
  ·rename_i v hv
   cases hx
   have hm:=look?_get hv
   have hq:=qh h1 _ hm
   have ha:=List.all_eq_true.1 hL _ hm
   simp only [w4]at ha
   cases hr:v.ren (look? σL)with
   |none=>rw [hr]at ha;cases ha.1
   |some u=>
    simp only [hr,Option.map_some]at hq
    exact⟨⟨none,u⟩,hq,rfl,rfl,rfl,SV.inUb_sound ha.2⟩
  ·cases hx
 ·have hm:=look?_get he
  have hq:=qh h2 _ hm
  have ha:=List.all_eq_true.1 hE _ hm
  simp only [w4]at ha
  cases hr:e.ren (look? σL)with
  |none=>simp only [hr]at ha;cases ha.1
  |some e'=>
   simp only [hr]at hq
   cases hσ:look? σL id with
   |none=>simp [hσ]at hq
   |some j=>
    simp only [hσ,Option.bind_some]at hq
    exact⟨j,e',rfl,hq,rfl,gc (List.mem_map_of_mem (f:=fun p:Nat×Entry=>p.1) hm),Entry.inUb_sound ha.2⟩
theorem rM{L:List (Nat×SV)}{E:List (Nat×Entry)}{next:Nat}{ids:List Nat}(hk:bH E=ids):Fits ids (qQ L E next):=by
 refine⟨fun id=>by simp only [qQ,hk],fun id aR=> ?_,fun id aR=>look?_none (by rw [show E.map (·.1)=ids from hk];exact iE aR),fun k z hz=> ?_⟩
 ·rw [← hk]at aR
  have hm:=SX.memN_mem.1 aR
  clear aR hk
  induction E with
  |nil=>simp [bH]at hm
  |cons p r ih=>
   simp only [qQ,look?]
   cases hb:Nat.beq p.1 id with
   |true=>exact⟨_,rfl⟩
   |false=>
    simp only [bH,w8,List.mem_cons]at hm
    rcases hm with e | hm
    ·subst e;simp at hb
    ·exact ih hm
 ·simp only [qQ]at hz
  split at hz
  ·cases hz;rfl
  ·cases hz
theorem vA{L:List (Nat×SV)}{E:List (Nat×Entry)}{next:Nat}{h:Shape}(hk:((bH E).all (memN h.idsX)&&h.fx.all (memN (bH E)))=true):FitsX h (qQ L E next):=by
 simp only [w4,List.all_eq_true]at hk
 refine⟨fun id aR=>SX.memN_mem.1 (hk.1 id (SX.memN_mem.1 aR)),fun id aR=>(rM (L:=L) (next:=next) rfl).hsome id (hk.2 id aR),(rM (E:=E) (ids:=bH E) rfl).hg⟩
def fm(fn:Func)(i:Nat):Code:=((iX (fn.body.getD .skip))[i]?).getD .skip
theorem LOk.one{P:Program}{W:Nat→Bool}{F:St→R}{c b:Code}(hc:iX c= [b])(h:LoopOk P W F b):LOk P W [F] c:=
 LOk.of_tops c [F] fun i F' b' hF hb=>by
  rw [hc]at hb
  cases i with
  |zero=>simp at hF hb;subst hF;subst hb;exact h
  |succ i=>simp at hF
end Go.SX
namespace Go.SX
open Go.RowKit
variable{X:Type}
inductive LT (X:Type) where
 |nrm (x:X) (σ:List (Nat×Nat))
 |ext (j:Nat) (σ:List (Nat×Nat))
 |need (nd:List Bool) (t:LT X)
 |ite (b:Bool) (t e:LT X)
def allT:List Bool→Bool
 | []=>true
 |b::r=>bif b then allT r else false
theorem pC: ∀ {l:List Bool},allT l=true→ ∀ b∈l,b=true
 | [],_,b,hb=>by cases hb
 |a::r,h,b,hb=>by
  cases a with
  |false=>cases h
  |true=>
   rcases List.mem_cons.1 hb with rfl | hb
   ·rfl
   ·exact pC (l:=r) h b hb
def LT.go{X Z:Type}(k:X→Option Z)(e:Nat→Option Z):LT X→Option Z
 | .nrm x _=>k x
 | .ext j _=>e j
 | .need nd t=>bif allT nd then t.go k e else none
 | .ite b t u=>bif b then t.go k e else u.go k e
def gD{X:Type}(lt:X→LT X):Nat→X→Option (Nat×X)
 |0,_=>none
 |n + 1,x=>(lt x).go (gD lt n) (fun j=>some (j,x))
theorem LT.go_mono{X Z:Type}{k k':X→Option Z}{e:Nat→Option Z}(hk: ∀ x z,k x=some z→k' x=some z): ∀ {t:LT X} {z:Z},t.go k e=some z→t.go k' e=some z
 | .nrm x _,z,h=>hk x z h
 | .ext j _,z,h=>h
 | .need nd t,z,h=>by
  simp only [LT.go]at h ⊢
  cases hn:allT nd with
  |true=>simp only [hn,cond_true]at h ⊢;exact LT.go_mono hk h
  |false=>simp only [hn,cond_false]at h;cases h
 | .ite b t u,z,h=>by
  simp only [LT.go]at h ⊢
  cases b with
  |true=>simp only [cond_true]at h ⊢;exact LT.go_mono hk h
  |false=>simp only [cond_false]at h ⊢;exact LT.go_mono hk h
theorem ru{X:Type}{lt:X→LT X}: ∀ {n:Nat} {x:X} {z:Nat×X},gD lt n x=some z→gD lt (n + 1) x=some z
 |0,_,_,h=>by cases h
 |n + 1,x,z,h=>by
  rw [gD]at h ⊢
  exact LT.go_mono (fun y z hy=>ru (n:=n) hy) h
theorem oz{X:Type}{lt:X→LT X}{n m:Nat}{x:X}{z:Nat×X}(fc:n≤m)(h:gD lt n x=some z):gD lt m x=some z:=by
 induction fc with
 |refl=>exact h
 |step _ ih=>exact ru ih
theorem rv{X:Type}{lt:X→LT X}{n m:Nat}{x:X}{z z':Nat×X}(h:gD lt n x=some z)(h':gD lt m x=some z'):z=z':=by
 have h1:=oz (Nat.le_max_left n m) h
 have h2:=oz (Nat.le_max_right n m) h'
 rw [h1]at h2
 exact Option.some.inj h2
def LT.each(Q:X→Prop):LT X→Prop
 | .nrm y _=>Q y
 | .ext _ _=>True
 | .need _ t=>t.each Q
 | .ite _ t e=>t.each Q∧e.each Q
theorem LT.go_each{Z:Type}{Q:X→Prop}{k:X→Option Z}{e:Nat→Option Z}: ∀ {t:LT X} {z:Z},t.each Q→t.go k e=some z→(∃ y,Q y∧k y=some z)∨ ∃ j,e j=some z
 | .nrm y _,z,h,hg=> .inl ⟨y,h,hg⟩
 | .ext j _,z,_,hg=> .inr ⟨j,hg⟩
 | .need nd t,z,h,hg=>by
  simp only [LT.go]at hg
  cases hn:allT nd with
  |true=>rw [hn]at hg;exact LT.go_each (t:=t) h hg
  |false=>rw [hn]at hg;cases hg
 | .ite b t u,z,h,hg=>by
  simp only [LT.go]at hg
  cases b with
  |true=>exact LT.go_each (t:=t) h.1 hg
  |false=>exact LT.go_each (t:=u) h.2 hg
theorem ta{lt:X→LT X}{fix:X→X→X}(h0: ∀ z,fix z z=z)(h1: ∀ x z,(lt x).each fun y=>fix x z=fix y z): ∀ {n:Nat} {x:X} {z:Nat×X},gD lt n x=some z→fix x z.2=z.2
 |0,_,_,h=>by cases h
 |n + 1,x,z,h=>by
  rw [gD]at h
  rcases LT.go_each (h1 x z.2) h with⟨y,hy,hz⟩ | ⟨j,hj⟩
  ·rw [hy];exact ta h0 h1 hz
  ·cases hj;exact h0 x
structure Lp (X:Type) where
 h:Shape
 JL:X→List (Nat×SV)
 JE:X→List (Nat×Entry)
 XL:Nat→X→List (Nat×SV)
 XE:Nat→X→List (Nat×Entry)
 q:Nat→Ex
 tags:List Nat
 lt:X→LT X
 fuel:X→Nat
 fix:X→X→X
 σ:List (Nat×Nat)
 rd:St→Option X
 fz:List Nat:= []
def so(s:St)(L:List (Nat×SV)):List (Option SS):=L.map fun p=>s.look p.1
def sn(σ:List (Nat×Nat))(s:St)(E:List (Nat×Entry)):List (Option Entry):=E.map fun p=>(look? σ p.1).bind s.ent
def sX(σ:List (Nat×Nat))(L:List (Nat×SV)):List (Option SS):=L.map fun p=>(p.2.ren (look? σ)).map (SS.mk none)
def oY(σ:List (Nat×Nat))(E:List (Nat×Entry)):List (Option Entry):=E.map fun p=>p.2.ren (look? σ)
def Lp.absL(p:Lp X)(x:X):R→LT X→RV
 | .done q s,.nrm y σ=> .done q (so s (p.JL y)) (sn σ s (p.JE y))
 | .done q s,.ext j σ=> .done q (so s (p.XL j x)) (sn σ s (p.XE j x))
 | .need nd r,.need _ t=> .need nd (p.absL x r t)
 | .ite b t e,.ite _ t' e'=> .ite b (p.absL x t t') (p.absL x e e')
 |_,_=> .none
def Lp.absR(p:Lp X)(x:X):LT X→RV
 | .nrm y σ=> .done .normal (sX σ (p.JL y)) (oY σ (p.JE y))
 | .ext j σ=> .done (p.q j) (sX σ (p.XL j x)) (oY σ (p.XE j x))
 | .need nd t=> .need nd (p.absR x t)
 | .ite b t e=> .ite b (p.absR x t) (p.absR x e)
def sQ(σ:List (Nat×Nat))(L:List (Nat×SV))(E:List (Nat×Entry)):Bool:=
 L.all (fun p=>(p.2.ren (look? σ)).isSome&&p.2.inUb (memN (bH E)))&&E.all (fun p=>(p.2.ren (look? σ)).isSome&&p.2.inUb (memN (bH E)))&&lm (σ.map (·.2))
def vH(σ:List (Nat×Nat))(l:List Nat):Bool:=l.all fun i=>match look? σ i with | some j=>Nat.beq i j | none=>false
def Ex.isEnd:Ex→Bool
 | .normal=>false
 |_=>true
def Lp.okL(p:Lp X)(x:X):LT X→Bool
 | .nrm y σ=>sQ σ (p.JL y) (p.JE y)&&vH σ p.h.fx
 | .ext j σ=>sQ σ (p.XL j x) (p.XE j x)&&vH σ p.h.fx&&memN p.tags j&&(p.q j).isEnd
 | .need _ t=>p.okL x t
 | .ite _ t e=>p.okL x t&&p.okL x e
def Lp.J(p:Lp X)(x:X):St:=qQ (p.JL x) (p.JE x) 1
def Lp.Jx(p:Lp X)(z:Nat×X):St:=qQ (p.XL z.1 z.2) (p.XE z.1 z.2) 1
theorem oq{σ:List (Nat×Nat)}{L:List (Nat×SV)}{E:List (Nat×Entry)}{s:St}(ho:sQ σ L E=true)(h1:so s L=sX σ L)(h2:sn σ s E=oY σ E):SubR (look? σ) (qQ L E 1) s:=by
 simp only [sQ,w4]at ho
 exact wC σ h1 h2 ho.1.1 ho.1.2 ho.2
theorem sK{σ:List (Nat×Nat)}{l:List Nat}(h:vH σ l=true): ∀ id,memN l id=true→look? σ id=some id:=by
 intro id aR
 have:=List.all_eq_true.1 h id (SX.memN_mem.1 aR)
 split at this
 ·rename_i j hj
  rw [hj,q8 this]
 ·cases this
theorem Lp.round(p:Lp X){x:X}{Z:Type}{k:X→Option Z}{e:Nat→Option Z}: ∀ {t:LT X} {r:R},p.absL x r t=p.absR x t→p.okL x t=true→(t.go k e).isSome=true→
  r.sat fun q s'=>match q with
   | .normal=> ∃ y σ,t.go k e=k y∧SubR (look? σ) (p.J y) s'∧ ∀ id,memN p.h.fx id=true→look? σ id=some id
   |q=> ∃ j σ,t.go k e=e j∧q=p.q j∧memN p.tags j=true∧SubR (look? σ) (p.Jx (j,x)) s'∧ ∀ id,memN p.h.fx id=true→look? σ id=some id
 | .nrm y σ,r,h,ho,_=>by
  cases r with
  |done q s=>
   simp only [Lp.absL,Lp.absR,RV.done.injEq]at h
   obtain⟨h0,h1,h2⟩:=h
   subst h0
   simp only [Lp.okL,w4]at ho
   exact⟨y,σ,rfl,oq ho.1 h1 h2,sK ho.2⟩
  |none=>simp [Lp.absL,Lp.absR]at h
  |need nd r=>simp [Lp.absL,Lp.absR]at h
  |ite b t e=>simp [Lp.absL,Lp.absR]at h
 | .ext j σ,r,h,ho,_=>by
  cases r with
  |done q s=>
   simp only [Lp.absL,Lp.absR,RV.done.injEq]at h
   obtain⟨h0,h1,h2⟩:=h
   simp only [Lp.okL,w4]at ho
   have hx:=oq ho.1.1.1 h1 h2
   have hk:=sK ho.1.1.2
   subst h0
   simp only [R.sat]
   have ht:=ho.1.2
   have he:=ho.2
   cases hq:p.q j with
   |normal=>rw [hq]at he;cases he
   |exit i=>exact⟨j,σ,rfl,hq.symm,ht,hx,hk⟩
   |ret=>exact⟨j,σ,rfl,hq.symm,ht,hx,hk⟩
  |none=>simp [Lp.absL,Lp.absR]at h
  |need nd r=>simp [Lp.absL,Lp.absR]at h
  |ite b t e=>simp [Lp.absL,Lp.absR]at h
 | .need nd t,r,h,ho,hs=>by
  cases r with
  |need nd' r=>
   simp only [Lp.absL,Lp.absR,RV.need.injEq]at h
   obtain⟨rfl,h⟩:=h
   simp only [LT.go]at hs
   cases hn:allT nd' with
   |false=>rw [hn]at hs;cases hs
   |true=>
    rw [hn]at hs
    simp only [LT.go,hn,cond_true]at hs ⊢
    exact⟨pC hn,Lp.round p (t:=t) h ho hs⟩
  |none=>simp [Lp.absL,Lp.absR]at h
  |done q s=>simp [Lp.absL,Lp.absR]at h
  |ite b t e=>simp [Lp.absL,Lp.absR]at h
 | .ite b t u,r,h,ho,hs=>by
  cases r with
  |ite b' t' u'=>
   simp only [Lp.absL,Lp.absR,RV.ite.injEq]at h
   obtain⟨rfl,h1,h2⟩:=h
   simp only [Lp.okL,w4]at ho
   refine⟨fun hb=> ?_,fun hb=> ?_⟩
   ·subst hb
    exact Lp.round p (t:=t) h1 ho.1 hs
   ·subst hb
    exact Lp.round p (t:=u) h2 ho.2 hs
  |none=>simp [Lp.absL,Lp.absR]at h
  |done q s=>simp [Lp.absL,Lp.absR]at h
  |need nd r=>simp [Lp.absL,Lp.absR]at h
def big(n:Nat):Nat:=bif Nat.ble n 4294967296 then(n + 1000) ^ 4 else(n + 1000) ^ 4
theorem wM(n:Nat):big n=(n + 1000) ^ 4:=Bool.cond_self _ _
theorem wW{m n:Nat}(h:m≤n + 1000):m≤big n:=by
 rw [wM]
 exact Nat.le_trans h (Nat.le_self_pow (by decide) _)
def Lp.res(p:Lp X)(x:X):Nat×X:=(gD p.lt (big (p.fuel x)) x).getD (0,x)
def Lp.fin(p:Lp X)(x:X):Bool:=(gD p.lt (big (p.fuel x)) x).isSome
theorem Lp.run(p:Lp X){m:Nat}{x:X}{z:Nat×X}(h:gD p.lt m x=some z)(hm:m≤big (p.fuel x)):p.fin x=true∧p.res x=z:=by
 have:=oz hm h
 exact⟨by unfold Lp.fin;rw [this];rfl,by unfold Lp.res;rw [this];rfl⟩
theorem Lp.fin_ex(p:Lp X){x:X}(h:p.fin x=true):gD p.lt (big (p.fuel x)) x=some (p.res x):=by
 unfold Lp.fin at h
 obtain⟨z,hz⟩:=Option.isSome_iff_exists.1 h
 unfold Lp.res
 rw [hz];rfl
def Lp.ends(p:Lp X)(s:St)(z:Nat×X):List Nat→R
 | []=> .none
 |j::r=>match r with
  | []=> .done (p.q j) (qJ p.h (look? p.σ) (p.Jx (j,z.2)) s)
  |_::_=> .ite (Nat.beq z.1 j) (.done (p.q j) (qJ p.h (look? p.σ) (p.Jx (j,z.2)) s)) (p.ends s z r)
def Lp.F(p:Lp X)(s:St):R:=
 match p.rd s with
 |some x=>bif(p.h.fresh s).all (fun i=> !s.used i)then .need [p.fin x] (p.ends s ((p.res x).1,p.fix x (p.res x).2) p.tags)else .none
 |none=> .none
theorem Lp.ends_unch(p:Lp X){s:St}{z:Nat×X}: ∀ {l:List Nat},(p.ends s z l).all fun _ s'=>Unch s s'
 | []=>trivial
 | [_]=>qZ _ _ _ _
 |_::_::_=>⟨qZ _ _ _ _,Lp.ends_unch p⟩
theorem Lp.ends_sat(p:Lp X){s:St}{z:Nat×X}{post:Ex→St→Prop}: ∀ {l:List Nat},memN l z.1=true→(p.ends s z l).sat post→post (p.q z.1) (qJ p.h (look? p.σ) (p.Jx z) s)
 | [],h,_=>by cases h
 | [j],h,hs=>by
  simp only [memN]at h
  cases hb:Nat.beq j z.1 with
  |true=>have:=q8 hb;subst this;exact hs
  |false=>rw [hb]at h;cases h
 |j::i::r,h,hs=>by
  simp only [Lp.ends,R.sat]at hs
  simp only [memN]at h
  cases hb:Nat.beq z.1 j with
  |true=>have:=q8 hb;subst this;exact hs.1 hb
  |false=>
   have hj:Nat.beq j z.1=false:=by
    cases hc:Nat.beq j z.1 with
    |false=>rfl
    |true=>have:=q8 hc;subst this;simp at hb
   refine Lp.ends_sat p (l:=i::r) ?_ (hs.2 hb)
   rw [hj,cond_false]at h
   simpa only [memN] using h
theorem Lp.ok{P:Program}{tbl:List (PF P)}{lf:List (St→R)}{W:Nat→Bool}{b:Code}(cq:P.follows .mixedOrders=true)(p:Lp X)
  (hD:(p.h.D.all W)=true) (hl:LOk P (memN p.h.D) lf b) (hJ: ∀ x,bH (p.JE x)=p.h.ids) (hX: ∀ j x,((bH (p.XE j x)).all (memN p.h.idsX)&&p.h.fx.all (memN (bH (p.XE j x))))=true)
  (hv: ∀ x,p.absL x ((gi P tbl (memN p.h.D) lf b (p.J x)).frzB p.fz) (p.lt x)=p.absR x (p.lt x)) (aA: ∀ x,p.okL x (p.lt x)=true)
  (hrd: ∀ s x,p.rd s=some x→so s (p.JL x)=sX p.σ (p.JL x)∧sn p.σ s (p.JE x)=oY p.σ (p.JE x)) (hσ: ∀ x,sQ p.σ (p.JL x) (p.JE x)=true)
  (h0: ∀ z,p.fix z z=z) (h1: ∀ x z,(p.lt x).each fun y=>p.fix x z=p.fix y z):LoopOk P W p.F b:=by
 refine LoopOk.mk' (tbl:=tbl) (lf:=lf) (h:=p.h) (J:=p.J) (Jx:=fun _=>p.Jx) cq (List.all_eq_true.1 hD) hl p.fz
  (fun m x=>(gD p.lt m x).isSome=true) (fun x q z=>q=p.q z.1∧memN p.tags z.1=true∧ ∃ m,gD p.lt m x=some z) (fun x=>rM (hJ x)) (fun _ z=>vA (hX z.1 z.2)) ?_ p.F ?_
 ·intro m x hI
  cases m with
  |zero=>cases hI
  |succ m=>
   rw [gD]at hI
   refine R.sat_mono (fun q s' hq=> ?_) (p.round (hv x) (aA x) hI)
   cases q with
   |normal=>
    obtain⟨y,σ,hg,mj,hfx⟩:=hq
    refine⟨m,y,look? σ,by omega,by rw [hg]at hI;exact hI,fun q z ⟨h1,h2,n,hn⟩=>⟨h1,h2,?_⟩,mj,hfx⟩
    cases hr:gD p.lt m y with
    |none=>rw [hg,hr]at hI;cases hI
    |some z'=>
     have:=rv hn hr
     subst this
     exact⟨m + 1,by rw [gD,hg,hr]⟩
   |exit i=>
    obtain⟨j,σ,hg,h1,h2,mj,hfx⟩:=hq
    exact⟨(j,x),look? σ,⟨h1,h2,m + 1,by rw [gD,hg]⟩,mj,hfx⟩
   |ret=>
    obtain⟨j,σ,hg,h1,h2,mj,hfx⟩:=hq
    exact⟨(j,x),look? σ,⟨h1,h2,m + 1,by rw [gD,hg]⟩,mj,hfx⟩
 ·intro s
  unfold Lp.F
  cases hr:p.rd s with
  |none=>exact .inl rfl
  |some x=>
   cases hfr:(p.h.fresh s).all (fun i=> !s.used i)with
   |false=>exact .inl (by simp only [cond_false])
   |true=>
    refine .inr ⟨[p.fin x],x,look? p.σ,p.ends s ((p.res x).1,p.fix x (p.res x).2) p.tags,by simp only [cond_true],p.ends_unch,oq (hσ x) (hrd s x hr).1 (hrd s x hr).2,rfl,fun hn=> ?_⟩
    have hs:=hn _ (List.mem_singleton.2 rfl)
    have hz0:=p.fin_ex hs
    rw [ta h0 h1 hz0]at *
    refine⟨⟨big (p.fuel x),by rw [hz0];rfl⟩,?_⟩
    rintro q z ⟨rfl,ht,m,hm⟩ post hp
    rw [← rv hm hz0]at hp
    exact p.ends_sat ht hp
theorem ay{s:St}{σ:List (Nat×Nat)}{k:Nat}{v u:SV}{L:List (Nat×SV)}(h:s.look k=some ⟨none,u⟩)(hv:v.ren (look? σ)=some u)(hr:so s L=sX σ L):so s ((k,v)::L)=sX σ ((k,v)::L):=by
 have h1:so s ((k,v)::L)=s.look k::so s L:=rfl
 have h2:sX σ ((k,v)::L)=(v.ren (look? σ)).map (SS.mk none)::sX σ L:=rfl
 rw [h1,h2,h,hv,hr];rfl
theorem dA{s:St}{σ:List (Nat×Nat)}{id j:Nat}{e e':Entry}{L:List (Nat×Entry)}(hj:look? σ id=some j)(h:s.ent j=some e')(he:e.ren (look? σ)=some e')(hr:sn σ s L=oY σ L):sn σ s ((id,e)::L)=oY σ ((id,e)::L):=by
 have h1:sn σ s ((id,e)::L)=(look? σ id).bind s.ent::sn σ s L:=rfl
 have h2:oY σ ((id,e)::L)=e.ren (look? σ)::oY σ L:=rfl
 rw [h1,h2,hj,he,hr,Option.bind_some,h]
inductive LAll (P:Program) (W:Nat→Bool):List (St→R)→List Code→Prop where
 |nil (l:List Code):LAll P W [] l
 |cons {F:St→R} {b:Code} {lf:List (St→R)} {l:List Code} (h:LoopOk P W F b) (r:LAll P W lf l):LAll P W (F::lf) (b::l)
theorem LAll.get{P:Program}{W:Nat→Bool}{lf:List (St→R)}{l:List Code}(h:LAll P W lf l): ∀ (i:Nat) (F:St→R) (b:Code),lf[i]? =some F→l[i]? =some b→LoopOk P W F b:=by
 induction h with
 |nil l=>intro i F b hF;simp at hF
 |cons h r ih=>
  intro i F b hF hb
  cases i with
  |zero=>simp at hF hb;subst hF;subst hb;exact h
  |succ i=>exact ih i F b (by simpa using hF) (by simpa using hb)
theorem LOk.all{P:Program}{W:Nat→Bool}{lf:List (St→R)}{c:Code}(h:LAll P W lf (iX c)):LOk P W lf c:=LOk.of_tops c lf h.get
theorem LOk.allT{P:Program}{W:Nat→Bool}{lf:List (St→R)}{c:Code}{l:List Code}(ht:iX c=l)(h:LAll P W lf l):LOk P W lf c:=LOk.all (by rw [ht];exact h)
theorem LOk.fnT{P:Program}{W:Nat→Bool}{lf:List (St→R)}{fn:Func}{l:List Code}(ht:iX (fn.body.getD .skip)=l)(h:LAll P W lf l): ∀ c,fn.body=some c→LOk P W lf c:=by
 intro c hc
 rw [hc]at ht
 exact LOk.allT ht h
theorem LOk.fn{P:Program}{W:Nat→Bool}{lf:List (St→R)}{fn:Func}(h:LAll P W lf (iX (fn.body.getD .skip))): ∀ c,fn.body=some c→LOk P W lf c:=by
 intro c hc
 rw [hc]at h
 exact LOk.all h
end Go.SX
namespace Go.SX
open Go.RowKit
def Entry.fz:Entry→Entry
 | .row _ e t xs=> .row false e t xs
 | .tree e t xs none=> .row false e t xs
 |e=>e
def Entry.isRow:Entry→Bool
 | .row _ _ _ _=>true
 | .tree _ _ _ none=>true
 |_=>false
def Entry.isOwn:Entry→Bool
 | .row true _ _ _=>true
 | .tree _ _ _ none=>true
 |_=>false
def Entry.flatOwn:Entry→Bool
 | .row true _ t _=>t.flat
 | .tree _ _ _ none=>true
 |_=>false
theorem HpL.fz{w0 w:World}{mem:Nat→Option Obj}{es:List Entry}{ρ:Nm}(h:HpL w0 mem es ρ w):
  ∃ ρ':Nm,ρ'.nm=ρ.nm∧Ext (memB w0 mem) (fun i=>Nat.blt i es.length) ρ ρ'∧HpL w0 mem (es.map Entry.fz) ρ' w∧
   ∀ (i:Nat) (e:Entry) (b:Nat),es[i]? =some e→e.isRow=true→b∈e.ob ρ i→ ∃ o,ρ'.mem b=some o:=by
 obtain⟨ρ1,n1,f1,x1,h1,m1⟩:=Hp.freezeA h (ac 0 es.length)
 refine⟨ρ1,n1,x1,?_,fun i e b he hr hb=> ?_⟩
 ·unfold HpL
  rw [show (fun i=>(es.map Entry.fz)[i]?)=ae (fun i=>es[i]?) (eG (fun i=>es[i]?) (ac 0 es.length)) from funext fun i=>by
   simp only [ae,List.getElem?_map]
   have hno: ∀ e1,look? (eG (fun i=>es[i]?) (ac 0 es.length)) i=some e1→ ∃ e0 t xs,(es[i]? =some (.row true e0 t xs)∨es[i]? =some (.tree e0 t xs none))∧e1= .row false e0 t xs:=fun e1 hl=>(look?_frzA hl).2
   cases he:es[i]? with
   |none=>
    cases hl:look? (eG (fun i=>es[i]?) (ac 0 es.length)) i with
    |none=>rfl
    |some e1=>obtain⟨_,_,_,h3,_⟩:=hno e1 hl;rw [he]at h3;rcases h3 with h3 | h3 <;> cases h3
   |some e=>
    have bI:=(zQ.1 he).1
    have eQ:i∈ac 0 es.length:=SX.memN_mem.1 (bk.2 ⟨Nat.zero_le _,by omega⟩)
    have gw:e.fz=e→(∀ e0 t xs,e≠ .row true e0 t xs)→(∀ e0 t xs,e≠ .tree e0 t xs none)→Option.map Entry.fz (some e)=match look? (eG (fun i=>es[i]?) (ac 0 es.length)) i with | some e=>some e | none=>some e:=by
     intro hf hn1 hn2
     cases hl:look? (eG (fun i=>es[i]?) (ac 0 es.length)) i with
     |none=>simp only [Option.map_some,hf]
     |some e1=>
      obtain⟨_,_,_,h3,_⟩:=hno e1 hl
      rw [he]at h3
      rcases h3 with h3 | h3
      ·exact(hn1 _ _ _ (Option.some.inj h3)).elim
      ·exact(hn2 _ _ _ (Option.some.inj h3)).elim
    cases e with
    |row own e t xs=>
     cases own with
     |true=>
      have:=look?_frzA_mem (ent:=fun i=>es[i]?) eQ (.inl he)
      simp only [this,Option.map_some,Entry.fz]
     |false=>exact gw rfl (fun _ _ _ h=>by cases h) (fun _ _ _ h=>by cases h)
    |tree e t xs ho=>
     cases ho with
     |none=>
      have:=look?_frzA_mem (ent:=fun i=>es[i]?) eQ (.inr he)
      simp only [this,Option.map_some,Entry.fz]
     |some q=>exact gw rfl (fun _ _ _ h=>by cases h) (fun _ _ _ h=>by cases h)
    |box T cs=>exact gw rfl (fun _ _ _ h=>by cases h) (fun _ _ _ h=>by cases h)
    |wk e t xs=>exact gw rfl (fun _ _ _ h=>by cases h) (fun _ _ _ h=>by cases h)
    |gone=>exact gw rfl (fun _ _ _ h=>(by cases h)) (fun _ _ _ h=>by cases h)]
  rw [show (fun i=>Nat.blt i (es.map Entry.fz).length)=fun i=>Nat.blt i es.length from by rw [List.length_map]]
  exact h1
 ·have bI:=(zQ.1 he).1
  have eQ:i∈ac 0 es.length:=SX.memN_mem.1 (bk.2 ⟨Nat.zero_le _,by omega⟩)
  refine m1 i eQ e he ?_ b hb
  cases e with
  |row own e t xs=>
   cases own with
   |true=>exact .inl ⟨_,_,_,rfl⟩
   |false=>cases hb
  |tree e t xs ho=>
   cases ho with
   |none=>exact .inr ⟨_,_,_,rfl⟩
   |some q=>cases hr
  |box T cs=>cases hr
  |wk e t xs=>cases hr
  |gone=>cases hr
def PF.fz{P:Program}(p:PF P):PF P where
 k:=p.k
 F:=fun args es=>bif es.any Entry.isOwn then p.F args (es.map Entry.fz)else none
 ok:=by
  intro args es o h ba mem ρ w hp
  cases ha:es.any Entry.isOwn with
  |false=>rw [ha]at h;cases h
  |true=>
   rw [ha]at h
   obtain⟨ρ1,n1,x1,h1,_⟩:=hp.fz
   have hc:args.map (SV.conc ρ)=args.map (SV.conc ρ1):=by
    refine List.map_congr_left fun v _=> ?_
    have: ∀ i,ρ1 i=ρ i:=fun i=>by simp only [Nm.of,n1]
    exact(SV.conc_congr (U:=fun _=>true) (fun i _=>this i) (by
     have hc: ∀ c:Cell,c.inU fun _=>true:=fun c=>by cases c <;> simp [Cell.inU]
     cases v with
     |one v=>exact fun c _=>hc c
     |tup vs=>exact fun v _ c _=>hc c)).symm
   rw [hc]
   refine(p.ok args (es.map Entry.fz) o h ba mem ρ1 w h1).mono fun e w' ⟨ρ',hx,he,hl,hr,hh⟩=> ?_
   rw [List.length_map]at hx hl
   exact⟨ρ',x1.trans hx fun _ h=>h,he,hl,hr,hh⟩
theorem eO.dat{H:Nat→Option Obj}{t:CTy}{v:Value}{xs:List (E t)}(h:eO H t v xs){b:Nat}(hb:b∈az v): ∃ o,H b=some o:=by
 rcases h with⟨hz,_⟩ | ⟨b',off,cap,arr,T,fz,rfl,_,_,h5,_⟩
 ·rw [nN hz]at hb;cases hb
 ·have:=gR hb
  subst this;exact⟨_,h5⟩
theorem aU.flat{H H':Nat→Option Obj}{t:CTy}(hf:t.flat=true){cs:List Value}{xs:List (E t)}(h:aU H t cs xs):aU H' t cs xs:=by
 refine⟨h.1,fun i x hx=> ?_⟩
 rw [Rep.flat t _ _ hf (h.2 i x hx)]
 exact Rep.of_flat t x hf
def Entry.isRB:Entry→Bool
 | .row _ _ _ _=>true
 | .tree _ _ _ none=>true
 | .box _ _=>true
 |_=>false
def Entry.lentQ(q:TypeId→Bool):Entry→Bool
 | .row own e _ _=>q e|| !own
 | .tree _ _ _ none=>true
 |_=>false
def Entry.fzQ(q:TypeId→Bool):Entry→Entry
 | .row own e t xs=> .row (own&& !q e) e t xs
 | .tree e t xs none=> .row false e t xs
 |e=>e
def mS(q:TypeId→Bool)(es:List Entry)(i:Nat):Bool:=match es[i]? with | some e=>e.lentQ q | none=>false
theorem HpL.fzQ(q:TypeId→Bool){w0 w:World}{mem:Nat→Option Obj}{es:List Entry}{ρ:Nm}(h:HpL w0 mem es ρ w):
  ∃ ρ':Nm,ρ'.nm=ρ.nm∧Ext (memB w0 mem) (fun i=>Nat.blt i es.length) ρ ρ'∧HpL w0 mem (es.map (Entry.fzQ q)) ρ' w∧
   ∀ (i:Nat) (e:Entry) (b:Nat),es[i]? =some e→e.lentQ q=true→b∈e.ob ρ i→ ∃ o,ρ'.mem b=some o:=by
 obtain⟨ρ1,n1,f1,x1,h1,m1⟩:=Hp.freezeA h ((ac 0 es.length).filter (mS q es))
 refine⟨ρ1,n1,x1,?_,fun i e b he hr hb=> ?_⟩
 ·unfold HpL
  rw [show (fun i=>(es.map (Entry.fzQ q))[i]?)=ae (fun i=>es[i]?) (eG (fun i=>es[i]?) ((ac 0 es.length).filter (mS q es))) from funext fun i=>by
   simp only [ae,List.getElem?_map]
   have hno: ∀ e1,look? (eG (fun i=>es[i]?) ((ac 0 es.length).filter (mS q es))) i=some e1→mS q es i=true∧ ∃ e0 t xs,(es[i]? =some (.row true e0 t xs)∨es[i]? =some (.tree e0 t xs none))∧e1= .row false e0 t xs:=fun e1 hl=>
    ⟨(List.mem_filter.1 (look?_frzA hl).1).2,(look?_frzA hl).2⟩
   cases he:es[i]? with
   |none=>
    cases hl:look? (eG (fun i=>es[i]?) ((ac 0 es.length).filter (mS q es))) i with
    |none=>rfl
    |some e1=>obtain⟨_,_,_,_,h3,_⟩:=hno e1 hl;rw [he]at h3;rcases h3 with h3 | h3 <;> cases h3
   |some e=>
    have bI:=(zQ.1 he).1
    have eQ:mS q es i=true→i∈(ac 0 es.length).filter (mS q es):=fun hs=>List.mem_filter.2 ⟨SX.memN_mem.1 (bk.2 ⟨Nat.zero_le _,by omega⟩),hs⟩
    have gw:e.fzQ q=e→((∃ e0 t xs,e= .row true e0 t xs)→mS q es i=false)→(∀ e0 t xs,e≠ .tree e0 t xs none)→Option.map (Entry.fzQ q) (some e)=match look? (eG (fun i=>es[i]?) ((ac 0 es.length).filter (mS q es))) i with | some e=>some e | none=>some e:=by
     intro hf hn1 hn2
     cases hl:look? (eG (fun i=>es[i]?) ((ac 0 es.length).filter (mS q es))) i with
     |none=>simp only [Option.map_some,hf]
     |some e1=>
      obtain⟨h2,_,_,_,h3,_⟩:=hno e1 hl
      rw [he]at h3
      rcases h3 with h3 | h3
      ·rw [hn1 ⟨_,_,_,Option.some.inj h3⟩]at h2;cases h2
      ·exact(hn2 _ _ _ (Option.some.inj h3)).elim
    cases e with
    |row own e t xs=>
     cases own with
     |true=>
      cases hq:q e with
      |true=>
       have:=look?_frzA_mem (ent:=fun i=>es[i]?) (eQ (by simp [mS,he,Entry.lentQ,hq])) (.inl he)
       simp only [this,Option.map_some,Entry.fzQ,hq,Bool.not_true,Bool.and_false]
      |false=>exact gw (by simp [Entry.fzQ,hq]) (fun _=>by simp [mS,he,Entry.lentQ,hq]) (fun _ _ _ h=>by cases h)
     |false=>exact gw rfl (fun⟨_,_,_,h⟩=>by cases h) (fun _ _ _ h=>by cases h)
    |tree e t xs ho=>
     cases ho with
     |none=>
      have:=look?_frzA_mem (ent:=fun i=>es[i]?) (eQ (by simp [mS,he,Entry.lentQ])) (.inr he)
      simp only [this,Option.map_some,Entry.fzQ]
     |some q=>exact gw rfl (fun⟨_,_,_,h⟩=>by cases h) (fun _ _ _ h=>by cases h)
    |box T cs=>exact gw rfl (fun⟨_,_,_,h⟩=>by cases h) (fun _ _ _ h=>by cases h)
    |wk e t xs=>exact gw rfl (fun⟨_,_,_,h⟩=>by cases h) (fun _ _ _ h=>by cases h)
    |gone=>exact gw rfl (fun⟨_,_,_,h⟩=>by cases h) (fun _ _ _ h=>(by cases h))]
  rw [show (fun i=>Nat.blt i (es.map (Entry.fzQ q)).length)=fun i=>Nat.blt i es.length from by rw [List.length_map]]
  exact h1
 ·have bI:=(zQ.1 he).1
  have eQ:i∈(ac 0 es.length).filter (mS q es):=List.mem_filter.2 ⟨SX.memN_mem.1 (bk.2 ⟨Nat.zero_le _,by omega⟩),by simp only [mS,he];exact hr⟩
  refine m1 i eQ e he ?_ b hb
  cases e with
  |row own e t xs=>
   cases own with
   |true=>exact .inl ⟨_,_,_,rfl⟩
   |false=>cases hb
  |tree e t xs ho=>
   cases ho with
   |none=>exact .inr ⟨_,_,_,rfl⟩
   |some q=>cases hr
  |box T cs=>cases hr
  |wk e t xs=>cases hr
  |gone=>cases hr
def iC(q:TypeId→Bool):List Entry→List Entry→List Entry
 |e0::r0,e::r=>(bif e0.lentQ q then e0 else e)::iC q r0 r
 |_,l=>l
theorem jq{q:TypeId→Bool}: ∀ (es l:List Entry),(iC q es l).length=l.length
 | [],l=>by cases l <;> rfl
 |_::_,[]=>rfl
 |e0::r0,e::r=>by simp only [iC,w9,jq r0 r]
theorem qf{q:TypeId→Bool}: ∀ {es l:List Entry} {i:Nat} {e0 e2:Entry},es[i]? =some e0→(iC q es l)[i]? =some e2→(e0.lentQ q=true∧e2=e0)∨(e0.lentQ q=false∧l[i]? =some e2)
 | [],l,i,e0,e2,h0,h=>by simp at h0
 |_::_,[],i,e0,e2,h0,h=>by simp [iC]at h
 |e::r0,e'::r,0,e0,e2,h0,h=>by
  simp only [List.getElem?_cons_zero,w3]at h0
  subst h0
  simp only [iC,List.getElem?_cons_zero,w3]at h
  cases hq:e.lentQ q with
  |true=>left;rw [hq]at h;exact⟨rfl,h.symm⟩
  |false=>right;rw [hq]at h;exact⟨rfl,by rw [← h];rfl⟩
 |e::r0,e'::r,i + 1,e0,e2,h0,h=>by
  simp only [iC,List.getElem?_cons_succ]at h0 h ⊢
  exact qf h0 h
def Entry.okB:Entry→Bool
 | .box _ _=>true
 | .gone=>true
 | .row true _ t _=>t.flat
 |_=>false
def oo(q:TypeId→Bool):List Entry→List Entry→Bool
 |e0::r0,e::r=>(e0.lentQ q||e.okB)&&oo q r0 r
 |_,_=>true
theorem qr{q:TypeId→Bool}: ∀ {es l:List Entry} {i:Nat} {e0 e:Entry},oo q es l=true→es[i]? =some e0→e0.lentQ q=false→l[i]? =some e→e.okB=true
 | [],l,i,e0,e,_,h0,_,_=>by simp at h0
 |_::_,[],i,e0,e,_,_,_,h=>by simp at h
 |f0::r0,f::r,0,e0,e,hk,h0,hr,h=>by
  simp only [List.getElem?_cons_zero,w3]at h0 h
  subst h0 h
  simp only [oo,hr,Bool.false_or,w4]at hk
  exact hk.1
 |f0::r0,f::r,i + 1,e0,e,hk,h0,hr,h=>by
  simp only [oo,w4]at hk
  simp only [List.getElem?_cons_succ]at h0 h
  exact qr hk.2 h0 hr h
def PF.lendQ{P:Program}(q:TypeId→Bool)(p:PF P):PF P where
 k:=p.k
 F:=fun args es=>bif es.any Entry.isOwn&&es.all Entry.isRB then
   match p.F args (es.map (Entry.fzQ q))with
   |some o=>bif o.new.all Entry.flatOwn&&oo q es o.es then some ⟨o.res,iC q es o.es,o.new,o.nd⟩else none
   |none=>none
  else none
 ok:=by
  intro args es o h ba mem ρ w hp
  cases ha:(es.any Entry.isOwn&&es.all Entry.isRB)with
  |false=>rw [ha]at h;cases h
  |true=>
   rw [ha,cond_true]at h
   simp only [w4]at ha
   have hrow:=List.all_eq_true.1 ha.2
   split at h
   ·rename_i o1 ho1
    cases hf:(o1.new.all Entry.flatOwn&&oo q es o1.es)with
    |false=>rw [hf]at h;cases h
    |true=>
     rw [hf,cond_true]at h
     cases h
     simp only [w4]at hf
     have aA:=hf.2
     have hflat:=List.all_eq_true.1 hf.1
     obtain⟨ρ1,n1,x1,h1,hdat1⟩:=hp.fzQ q
     have hc:args.map (SV.conc ρ)=args.map (SV.conc ρ1):=by
      refine List.map_congr_left fun v _=> ?_
      have: ∀ i,ρ1 i=ρ i:=fun i=>by simp only [Nm.of,n1]
      exact(SV.conc_congr (U:=fun _=>true) (fun i _=>this i) (by
       have hc: ∀ c:Cell,c.inU fun _=>true:=fun c=>by cases c <;> simp [Cell.inU]
       cases v with
       |one v=>exact fun c _=>hc c
       |tup vs=>exact fun v _ c _=>hc c)).symm
     rw [hc]
     refine(p.ok args (es.map (Entry.fzQ q)) o1 ho1 ba mem ρ1 w h1).mono fun e w' ⟨ρ2,hx,he,hl,hr,hh⟩=> ?_
     rw [List.length_map]at hx hl
     have hll:(iC q es o1.es).length=es.length:=by rw [jq,hl]
     have bj:(o1.es++o1.new).length=(iC q es o1.es++o1.new).length:=by simp only [w5,jq]
     have fc: ∀ i,i < es.length→ρ2 i=ρ i:=fun i hi=>by
      rw [hx.nm i (by simp only [Nat.blt];exact Nat.ble_eq_true_of_le hi)]
      simp only [Nm.of,n1]
     let ρ':Nm:=⟨ρ2.nm,ρ.mem,fun i=>bif Nat.blt i es.length then ρ.fp i else ρ2.fp i⟩
     have hρ': ∀ i,ρ' i=ρ2 i:=fun i=>rfl
     have hold: ∀ b o,ρ.mem b=some o→ρ2.mem b=some o:=fun b o hb=>hx.old b o (x1.old b o hb)
     have gv: ∀ (i:Nat) (e:Entry),(iC q es o1.es++o1.new)[i]? =some e→(i < es.length∧es[i]? =some e∧e.lentQ q=true)∨((o1.es++o1.new)[i]? =some e∧((e.flatOwn=true∧es.length≤i)∨e.okB=true)):=by
      intro i e hi
      by_cases bI:i < es.length
      ·rw [List.getElem?_append_left (by omega)]at hi
       have he0:es[i]? =some es[i]:=List.getElem?_eq_getElem bI
       rcases qf he0 hi with⟨h1,rfl⟩ | ⟨h1,h2⟩
       ·exact .inl ⟨bI,he0,h1⟩
       ·exact .inr ⟨by rw [List.getElem?_append_left (by omega)];exact h2,.inr (qr aA he0 h1 h2)⟩
      ·right
       have hge:es.length≤i:=Nat.le_of_not_lt bI
       rw [List.getElem?_append_right (by omega)]at hi
       exact⟨by rw [List.getElem?_append_right (by omega),hl,← hll];exact hi,.inl ⟨hflat _ (List.mem_of_getElem? hi),hge⟩⟩
     have hobA: ∀ (i:Nat) (e:Entry),i < es.length→e.ob ρ' i=e.ob ρ i:=by
      intro i e bI
      have h1:ρ' i=ρ i:=(hρ' i).trans (fc i bI)
      have h2:ρ'.fp i=ρ.fp i:=by show (bif Nat.blt i es.length then ρ.fp i else ρ2.fp i)=_;rw [show Nat.blt i es.length=true from Nat.ble_eq_true_of_le bI];rfl
      cases e with
      |row own _ _ _=>cases own <;> simp only [Entry.ob,h1]
      |_=>simp only [Entry.ob,h1,h2]
     have hfpB: ∀ i,es.length≤i→ρ'.fp i=ρ2.fp i:=by
      intro i hge
      show (bif Nat.blt i es.length then ρ.fp i else ρ2.fp i)=_
      have:Nat.blt i es.length=false:=by
       cases hb:Nat.blt i es.length with
       |false=>rfl
       |true=>have:=zW hb;omega
      rw [this];rfl
     have hobB: ∀ (i:Nat) (e:Entry),((e.flatOwn=true∧es.length≤i)∨e.okB=true)→e.ob ρ' i=e.ob ρ2 i:=by
      intro i e hf
      rcases hf with⟨hf,hge⟩ | hf
      ·have h2:=hfpB i hge
       cases e with
       |row own _ _ _=>cases own <;> simp only [Entry.ob,hρ']
       |_=>simp only [Entry.ob,hρ',h2]
      ·cases e with
       |row own _ _ _=>cases own <;> simp only [Entry.ob,hρ']
       |box _ _=>simp only [Entry.ob,hρ']
       |gone=>rfl
       |wk _ _ _=>cases hf
       |tree _ _ _ _=>cases hf
     have aS: ∀ (i:Nat) (e:Entry) (b:Nat),(o1.es++o1.new)[i]? =some e→b∈e.ob ρ2 i→ρ2.mem b=none:=by
      intro i e b hi hb
      exact(Entry.ob_lt (hh.he i e hi).1 hb).2.2
     have hnone: ∀ b,ρ2.mem b=none→ρ.mem b=none:=by
      intro b hb
      cases hm:ρ.mem b with
      |none=>rfl
      |some ob=>rw [hold b ob hm]at hb;cases hb
     have hconc: ∀ cs:List Cell,cs.map (Cell.conc ρ')=cs.map (Cell.conc ρ2):=fun cs=>
      ch (U:=fun _=>true) (fun i _=>hρ' i) (fun c _=>by cases c <;> simp [Cell.inU])
     refine⟨ρ',⟨fun i hi=> ?_,fun _ _ h=>h,fun _ _ h=> .inl h⟩,he,hll,by rw [← bj];exact hr,⟨fun i e hi=> ?_,fun i j e e' b hi hj hb hb'=> ?_,⟨hh.hf.os,hh.hf.tape,hh.hf.output,hh.hf.size,hh.hf.mem,fun b o hb=>hh.hf.dat b o (hold b o hb),hp.hf.gl⟩⟩⟩
     ·rw [hρ'];exact fc i (zW hi)
     ·rcases gv i e hi with⟨bI,hi',hir⟩ | ⟨hi',hf'⟩
      ·have hq:=(hp.he i e hi').1
       have hheap: ∀ b∈e.ob ρ i,w'.heap[b]? =w.heap[b]? :=fun b hb=>by
        obtain⟨ob,pu⟩:=hdat1 i _ b hi' hir hb
        rw [h1.hf.dat b ob pu,hh.hf.dat b ob (hx.old b ob pu)]
       refine⟨?_,by simp only [Nat.blt,Nat.ble_eq,w5];omega,?_⟩
       ·cases e with
        |box T cs=>cases hir
        |wk e t xs=>cases hir
        |gone=>trivial
        |row own e t xs=>
         cases own with
         |false=>simp only [Entry.holds]at hq ⊢;rw [hρ',fc i bI];exact hq
         |true=>
          obtain⟨cs,k1,k2,k3⟩:=hq
          simp only [Entry.holds]
          rw [hρ',fc i bI]
          exact⟨cs,gk k1 fun b hb=>hheap b hb,k2,k3⟩
        |tree e t xs ho=>
         cases ho with
         |some q=>cases hir
         |none=>
          have h2:ρ'.fp i=ρ.fp i:=by show (bif Nat.blt i es.length then ρ.fp i else ρ2.fp i)=_;rw [show Nat.blt i es.length=true from Nat.ble_eq_true_of_le bI];rfl
          obtain⟨cs,Ls,k1,k2,k3,k4,k5⟩:=hq
          simp only [Entry.ob]at hheap
          simp only [Entry.holds]
          rw [hρ',fc i bI,h2]
          exact⟨cs,Ls,gk k1 fun b hb=>hheap b (List.mem_append_left _ hb),k2.keep (fun b hb=>hheap b (w6 _ (by rw [k3];exact hb))) (fun _ _ h=>by cases h),k3,k4,k5⟩
       ·cases e with
        |box T cs=>cases hir
        |wk e t xs=>cases hir
        |gone=>trivial
        |row own e t xs=>trivial
        |tree e t xs ho=>
         cases ho with
         |some q=>cases hir
         |none=>trivial
      ·have hq:=hh.he i e hi'
       refine⟨?_,by rw [← bj];exact hq.2.1,?_⟩
       ·rcases hf' with⟨hf',hge⟩ | hf'
        ·cases e with
         |box T cs=>cases hf'
         |wk e t xs=>cases hf'
         |gone=>cases hf'
         |row own e t xs=>
          cases own with
          |false=>cases hf'
          |true=>
           obtain⟨cs,k1,k2,k3⟩:=hq.1
           exact⟨cs,k1,aU.flat hf' k2,fun b hb=>⟨(k3 b hb).1,hnone b (k3 b hb).2⟩⟩
         |tree e t xs ho=>
          cases ho with
          |some q=>cases hf'
          |none=>
           obtain⟨cs,Ls,k1,k2,k3,k4,k5⟩:=hq.1
           have h2:=hfpB i hge
           simp only [Entry.holds]
           rw [hρ',h2]
           exact⟨cs,Ls,k1,k2.keep (fun _ _=>rfl) (fun _ _ h=>by cases h),k3,k4,fun b hb=>⟨(k5 b hb).1,hnone b (k5 b hb).2⟩⟩
        ·cases e with
         |box T cs=>
          obtain⟨b,k1,k2,k3,k4⟩:=hq.1
          exact⟨b,k1,by rw [hconc];exact k2,k3,hnone b k4⟩
         |gone=>trivial
         |wk _ _ _=>cases hf'
         |tree _ _ _ _=>cases hf'
         |row own e t xs=>
          cases own with
          |false=>cases hf'
          |true=>
           obtain⟨cs,k1,k2,k3⟩:=hq.1
           exact⟨cs,k1,aU.flat hf' k2,fun b hb=>⟨(k3 b hb).1,hnone b (k3 b hb).2⟩⟩
       ·rw [← bj];exact hq.2.2
     ·rcases gv i e hi with⟨bI,hi',hir⟩ | ⟨hi',hf'⟩
      ·rw [hobA i e bI]at hb
       rcases gv j e' hj with⟨hlt',hj',hjr⟩ | ⟨hj',hf''⟩
       ·rw [hobA j e' hlt']at hb'
        exact hp.hi i j e e' b hi' hj' hb hb'
       ·obtain⟨ob,pu⟩:=hdat1 i e b hi' hir hb
        rw [hobB j e' hf'']at hb'
        have:=aS j e' b hj' hb'
        rw [hx.old b ob pu]at this;cases this
      ·rw [hobB i e hf']at hb
       rcases gv j e' hj with⟨hlt',hj',hjr⟩ | ⟨hj',hf''⟩
       ·rw [hobA j e' hlt']at hb'
        obtain⟨ob,pu⟩:=hdat1 j e' b hj' hjr hb'
        have:=aS i e b hi' hb
        rw [hx.old b ob pu]at this;cases this
       ·rw [hobB j e' hf'']at hb'
        exact hh.hi i j e e' b hi' hj' hb hb'
   ·cases h
abbrev PF.lend{P:Program}(p:PF P):PF P:=PF.lendQ (fun _=>true) p
def mt:List Entry→List Entry→List Entry
 |e0::r0,e::r=>(match e0 with | .row false T t xs=> .row false T t xs | _=>e)::mt r0 r
 |_,l=>l
theorem eR: ∀ (es l:List Entry),(mt es l).length=l.length
 | [],l=>by cases l <;> rfl
 |_::_,[]=>rfl
 |e0::r0,e::r=>by simp only [mt,w9,eR r0 r]
theorem ri: ∀ {es l:List Entry} {i:Nat} {e2:Entry},(mt es l)[i]? =some e2→ ∃ e1,l[i]? =some e1∧(e2=e1∨ ∃ T t xs,e2= .row false T t xs∧es[i]? =some e2)
 | [],l,i,e2,h=>by
  have:mt [] l=l:=by cases l <;> rfl
  rw [this]at h;exact⟨e2,h,.inl rfl⟩
 |_::_,[],i,e2,h=>by simp [mt]at h
 |e0::r0,e::r,0,e2,h=>by
  simp only [mt,List.getElem?_cons_zero,w3]at h
  subst h
  refine⟨e,rfl,?_⟩
  split
  ·rename_i T t xs;exact .inr ⟨T,t,xs,rfl,rfl⟩
  ·exact .inl rfl
 |e0::r0,e::r,i + 1,e2,h=>by
  simp only [mt,List.getElem?_cons_succ]at h ⊢
  exact ri h
def nd1:List Bool→List Bool
 | []=> []
 |b::r=> [allT (b::r)]
theorem wq{l:List Bool}(h: ∀ b∈nd1 l,b=true): ∀ b∈l,b=true:=by
 cases l with
 |nil=>intro b hb;cases hb
 |cons b r=>exact pC (h _ (List.mem_singleton.2 rfl))
def wG(P:Program)(tbl:List (PF P))(lf:List (St→R))(fn:Func)(args:List SV)(es:List Entry):Option Out:=
 match ur P tbl lf fn args es with
 |some o=>some ⟨o.res,mt es o.es,o.new,nd1 o.nd⟩
 |none=>none
def PF.ofG(P:Program)(tbl:List (PF P))(lf:List (St→R))(cq:P.follows .mixedOrders=true)(k:FuncId)(fn:Func)(hf:P.funcs[k]? =some fn)(hl: ∀ c,fn.body=some c→LOk P (fun k=>Nat.blt k fn.ntmps) lf c)
  (F:List SV→List Entry→Option Out) (h: ∀ vs es r,F vs es=some r→wG P tbl lf fn vs es=some r):PF P where
 k:=k
 F:=F
 ok:=by
  intro vs es o hv ba mem ρ w hp
  have hc:=h vs es o hv
  unfold wG at hc
  split at hc
  ·rename_i o1 ho1
   cases hc
   refine(kY cq hf hl ho1 (wq ba) mem ρ w hp).mono fun e w' ⟨ρ',hx,he,bj,hr,hh⟩=> ?_
   have hl2:(mt es o1.es++o1.new).length=(o1.es++o1.new).length:=by simp only [w5,eR]
   refine⟨ρ',hx,he,by rw [eR];exact bj,by rw [hl2];exact hr,?_⟩
   unfold HpL
   rw [hl2]
   refine Hp.less hh fun id e2 h2=> ?_
   by_cases bI:id < o1.es.length
   ·rw [List.getElem?_append_left (by rw [eR];exact bI)]at h2
    obtain⟨e1,h1,hY⟩:=ri h2
    have h1':(o1.es++o1.new)[id]? =some e1:=by rw [List.getElem?_append_left bI];exact h1
    rcases hY with rfl | ⟨T,t,xs,rfl,he0⟩
    ·obtain⟨q1,_,q3⟩:=hh.he id e2 h1'
     exact⟨e2,h1',q1,fun _ h=>h,q3⟩
    ·refine⟨e1,h1',?_,fun b hb=>(by cases hb),trivial⟩
     have:=(hp.he id _ he0).1
     simp only [Entry.holds]at this ⊢
     rw [hx.nm id (by simp only [Nat.blt];exact Nat.ble_eq_true_of_le (by omega))]
     exact eO.mono hx.old this
   ·rw [List.getElem?_append_right (by rw [eR];omega),eR]at h2
    have h1':(o1.es++o1.new)[id]? =some e2:=by rw [List.getElem?_append_right (by omega)];exact h2
    obtain⟨q1,_,q3⟩:=hh.he id e2 h1'
    exact⟨e2,h1',q1,fun _ h=>h,q3⟩
  ·cases hc
end Go.SX
namespace Go.SX
open Go.RowKit
variable{X A B:Type}
def LT.out:LT X→Option (Nat ⊕ X)
 | .nrm x _=>some (.inr x)
 | .ext j _=>some (.inl j)
 | .need nd t=>bif allT nd then t.out else none
 | .ite b t e=>bif b then t.out else e.out
theorem LT.go_out{Z:Type}{k:X→Option Z}{e:Nat→Option Z}: ∀ {t:LT X} {r:Nat ⊕ X},t.out=some r→t.go k e=match r with | .inl j=>e j | .inr y=>k y
 | .nrm x _,r,h=>by simp only [LT.out,w3]at h;subst h;rfl
 | .ext j _,r,h=>by simp only [LT.out,w3]at h;subst h;rfl
 | .need nd t,r,h=>by
  simp only [LT.out]at h
  simp only [LT.go]
  cases hn:allT nd with
  |true=>rw [hn,cond_true]at h;rw [cond_true];exact LT.go_out h
  |false=>rw [hn]at h;cases h
 | .ite b t u,r,h=>by
  simp only [LT.out]at h
  simp only [LT.go]
  cases b with
  |true=>rw [cond_true]at h ⊢;exact LT.go_out h
  |false=>rw [cond_false]at h ⊢;exact LT.go_out h
theorem sZ{lt:X→LT X}{x:X}{j:Nat}(n:Nat)(h:(lt x).out=some (.inl j)):gD lt (n + 1) x=some (j,x):=by
 rw [gD,LT.go_out h]
theorem va{lt:X→LT X}{x y:X}(n:Nat)(h:(lt x).out=some (.inr y)):gD lt (n + 1) x=gD lt n y:=by
 rw [gD,LT.go_out h]
def cd(f:B→A→Nat ⊕ A)(e:Nat):List B→Nat→A→Nat×Nat×A
 | [],i,a=>(e,i,a)
 |b::r,i,a=>match f b a with
  | .inl j=>(j,i,a)
  | .inr a'=>cd f e r (i + 1) a'
theorem vr{xs:List B}{i:Nat}{b:B}{r:List B}(h:xs.drop i=b::r):xs[i]? =some b∧xs.drop (i + 1)=r:=by
 refine⟨?_,?_⟩
 ·have:=congrArg (fun l=>l[0]?) h
  simpa using this
 ·rw [← List.tail_drop,h];rfl
theorem rx{lt:X→LT X}(st:Nat→A→X)(f:B→A→Nat ⊕ A)(e:Nat)(Inv:Nat→A→Prop)(xs:List B)
  (hs: ∀ i b a,xs[i]? =some b→Inv i a→(lt (st i a)).out=some (match f b a with | .inl j=> .inl j | .inr a'=> .inr (st (i + 1) a'))∧ ∀ a',f b a= .inr a'→Inv (i + 1) a')
  (he: ∀ a,Inv xs.length a→(lt (st xs.length a)).out=some (.inl e)):
  ∀ (l:List B) (i:Nat) (a:A),xs.drop i=l→i + l.length=xs.length→Inv i a→gD lt (l.length + 1) (st i a)=some ((cd f e l i a).1,st (cd f e l i a).2.1 (cd f e l i a).2.2)
 | [],i,a,_,hn,hI=>by
  have:i=xs.length:=by simpa using hn
  subst this
  exact sZ _ (he a hI)
 |b::r,i,a,hd,hn,hI=>by
  obtain⟨h1,h2⟩:=vr hd
  obtain⟨h3,h4⟩:=hs i b a h1 hI
  simp only [cd]
  cases hf:f b a with
  |inl j=>rw [hf]at h3;exact sZ _ h3
  |inr a'=>
   rw [hf]at h3
   rw [w9,va _ h3]
   exact rx st f e Inv xs hs he r (i + 1) a' h2 (by simp only [w9]at hn;omega) (h4 a' hf)
theorem Lp.walk(p:Lp X)(st:Nat→A→X)(f:B→A→Nat ⊕ A)(e:Nat)(Inv:Nat→A→Prop)(xs:List B)
  (hs: ∀ i b a,xs[i]? =some b→Inv i a→(p.lt (st i a)).out=some (match f b a with | .inl j=> .inl j | .inr a'=> .inr (st (i + 1) a'))∧ ∀ a',f b a= .inr a'→Inv (i + 1) a')
  (he: ∀ a,Inv xs.length a→(p.lt (st xs.length a)).out=some (.inl e)) (a:A) (h0:Inv 0 a) (hf:xs.length≤p.fuel (st 0 a)):
  p.fin (st 0 a)=true∧p.res (st 0 a)=((cd f e xs 0 a).1,st (cd f e xs 0 a).2.1 (cd f e xs 0 a).2.2):=
 p.run (rx st f e Inv xs hs he xs 0 a rfl (by omega) h0) (wW (by omega))
theorem eN{x:Int}(h0: -9223372036854775808≤x)(h1:x≤9223372036854775807):IntKind.i64.wrap x=x:=by
 have hb:IntKind.i64.bits=64:=rfl
 have hs:IntKind.i64.signed=true:=rfl
 simp only [IntKind.wrap,hb,hs,Bool.true_and,decide_eq_true_eq]
 split <;> omega
theorem um{i n:Nat}(h:i < n)(hn:n≤9223372036854775807):IntKind.i64.wrap ((i:Int) + 1)=((i + 1:Nat):Int):=by
 rw [eN (by omega) (by omega)];omega
end Go.SX
