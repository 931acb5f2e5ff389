import Derived.Test.YthehiagbdgollaaGreatDoorTXC
import Derived.Deep.LoopGhost
set_option linter.unusedSimpArgs false
set_option linter.unusedVariables false
open Nat renaming eq_of_beq_eq_true → q8
open Option renaming map_eq_some_iff → q9
open Option.some renaming injEq → w3
open Bool renaming and_eq_true → w4
open List renaming length_append → w5
open List renaming mem_append_right → w6
open List renaming mem_append → w7
open List renaming map_cons → w8
open List renaming length_cons → w9
open List renaming getElem?_eq_some_iff → z6
open Nat renaming le_of_ble_eq_true → z7
open List renaming mem_singleton → z8
namespace Go.SX
open Go.RowKit
structure Dl where
 dst:Option Nat
 v:SS
 es:List (Nat×Entry)
 new:List Nat
 ids:List Nat
 nd:List Bool
def St.apply(s:St)(d:Dl):St:=
 {look:=match d.dst with | none=>s.look | some k=>fun i=>bif Nat.beq i k then some d.v else s.look i
  ent:=aZ s.ent d.es
  used:=bk s.used d.new
  wr:=match d.dst with | none=>s.wr | some k=>fun i=>bif Nat.beq i k then true else s.wr i
  next:=s.next
  log:=s.log
  logE:=s.logE }
def aeR(ops:List Oper)(o:Oper):Option (Option (Nat×Bool)):=
 match o.guard with
 |none=>some none
 |some (j,b)=>match ops[j]? with
  |some q=>match q.dst with
   |some k=>some (some (k,b))
   |none=>none
  |none=>none
def YY(W:Nat→Bool)(s:St):Option Nat→Bool
 |none=>true
 |some k=>W k&& !s.wr k
def Te(s:St):Option (Nat×Bool)→Bool
 |none=>true
 |some p=>s.wr p.1
def aaL(s:St):Nat→Option (Nat×Bool)→Bool
 |_,none=>true
 |0,some _=>true
 |f + 1,some p=>match s.look p.1 with
  |some ⟨g,.one ⟨false,[.val (.bool c)]⟩⟩=>(match p.2 with | true=>c | false=> !c)&&aaL s f g
  |_=>true
def acR(s:St):Nat→Option (Nat×Bool)→Option Bool
 |_,none=>some true
 |0,some _=>none
 |f + 1,some p=>match s.look p.1 with
  |some ⟨g,.one ⟨false,[.val (.bool c)]⟩⟩=>match acR s f g with
   |some c'=>some ((match p.2 with | true=>c | false=> !c)&&c')
   |none=>none
  |_=>none
def Yz(s:St)(g:Option (Nat×Bool)):List Bool→List Bool
 | []=> []
 |l=>match g with
  |none=>l
  |some p=>l.map fun n=> !(aaL s 32 (some p))||n
def It(c:Bool)(e:Entry)(old:Option Entry):Option Entry:=
 match e,old with
 | .row own e t xs,none=>some (.row own e t (cond c xs []))
 | .row own e t xs,some (.row own' e' t' xs')=>if h:t'=t then bif(own==own')&&Nat.beq e e' then some (.row own e t (cond c xs (h ▸ xs')))else none else none
 | .box T cs,some (.box T' cs')=>bif Nat.beq T T' then(kq c cs cs').map (.box T)else none
 | .tree e t xs none,none=>some (.tree e t (cond c xs []) none)
 | .tree e t xs none,some (.tree e' t' xs' none)=>if h:t'=t then bif Nat.beq e e' then some (.tree e t (cond c xs (h ▸ xs')) none)else none else none
 | .wk e t xs,some (.wk e' t' xs')=>if h:t'=t then bif Nat.beq e e' then some (.wk e t (cond c xs (h ▸ xs')))else none else none
 | .mp ks,some (.mp ks')=>some (.mp (cond c ks ks'))
 | .gone,some .gone=>some .gone
 | .gone,none=>some .gone
 |_,_=>none
def ad5(c:Bool)(e:Entry)(old:Option Entry):Option Entry:=
 match It c e old with
 |some e'=>some e'
 |none=>match e,old with
  | .gone,some _=>some .gone
  |_,_=>none
theorem Td{c:Bool}{e e2:Entry}{old:Option Entry}(h:ad5 c e old=some e2):It c e old=some e2∨(e= .gone∧e2= .gone∧ ∃ o,old=some o):=by
 unfold ad5 at h
 split at h
 ·rename_i h1;rw [h1];exact .inl h
 ·split at h
  ·cases h;exact .inr ⟨rfl,rfl,_,rfl⟩
  ·cases h
def Nt(c:Bool)(ent:Nat→Option Entry):List (Nat×Entry)→Option (List (Nat×Entry))
 | []=>some []
 |p::r=>match ad5 c p.2 (ent p.1),Nt c ent r with
  |some e,some es=>some ((p.1,e)::es)
  |_,_=>none
def rsF{α:Type}(f:Nat→Option α)(l:List Nat):Nat→Option α:=fun i=>bif memN l i then f i else none
theorem ZF{α:Type}{f:Nat→Option α}{l:List Nat}: ∀ i x,rsF f l i=some x→f i=some x:=by
 intro i x h
 unfold rsF at h
 cases hm:memN l i with
 |true=>simpa [hm] using h
 |false=>simp [hm]at h
def Ns:List Operand→List Nat
 | []=> []
 | .tmp t::r=>t::Ns r
 |_::r=>Ns r
def Is(look:Nat→Option SS)(A:List (Nat×Bool)):List Operand→List Nat
 | []=> []
 |x::r=>(match ev look A x with | some v=>v.ids | none=> [])++Is look A r
def Mu(look:Nat→Option SS)(ent:Nat→Option Entry)(A:List (Nat×Bool))(o:Oper):List Nat:=
 match o.op with
 | .load _ _=>Is look A (Gi o.op)
 | .store _ _ _=>Is look A (Gi o.op)
 | .indexAddr _ _ _=>Is look A (Gi o.op)
 | .slice _ _ _ _ _=>Is look A (Gi o.op)
 | .buildSlice _ _ _=>Is look A (Gi o.op)
 | .binOp _ _ _ _ _=>Is look A (Gi o.op)
 | .convert _ _ _=>Is look A (Gi o.op)
 | .lookup _ _ _ _=>Is look A (Gi o.op)
 | .mapUpdate _ _ _ _=>Is look A (Gi o.op)
 | .insert _ _ _ _=>Is look A (Gi o.op)
 | .call c=>match c.callee with
  | .builtin _=>Is look A (Gi o.op)
  |_=>MB ent 4 (UW [] (Is look A (Gi o.op)))
 |_=> []
def opR(P:Program)(tbl:List (PF P))(look:Nat→Option SS)(ent:Nat→Option Entry)(A:List (Nat×Bool))(nid:Nat)(o:Oper):Option Raw:=opV P tbl (rsF look (Ns (Gi o.op))) (rsF ent (Mu look ent A o)) A nid o
def Cell.inUb(U:Nat→Bool)(c:Cell):Bool:=c.ids.all U
def V1.inUb(U:Nat→Bool)(v:V1):Bool:=v.cs.all (Cell.inUb U)
def SV.inUb(U:Nat→Bool):SV→Bool
 | .one v=>v.inUb U
 | .tup vs=>vs.all (V1.inUb U)
theorem Cell.inUb_sound{U:Nat→Bool}{c:Cell}(h:c.inUb U=true):c.inU U:=by
 unfold Cell.inUb at h
 rw [List.all_eq_true]at h
 cases c with
 |val v=>trivial
 |ptr id off=>exact h id (by simp [Cell.ids])
 |ref id=>exact h id (by simp [Cell.ids])
 |el id z i off=>exact h id (by simp [Cell.ids])
 |vw id z k=>exact h id (by simp [Cell.ids])
 |clo f caps=>exact fun id jy=>h id jy
 |bnd f vs=>exact fun id jy=>h id jy
theorem V1.inUb_sound{U:Nat→Bool}{v:V1}(h:v.inUb U=true):v.inU U:=by
 unfold V1.inUb at h
 rw [List.all_eq_true]at h
 exact fun c hc=>Cell.inUb_sound (h c hc)
theorem SV.inUb_sound{U:Nat→Bool}{v:SV}(h:v.inUb U=true):v.inU U:=by
 cases v with
 |one v=>exact V1.inUb_sound h
 |tup vs=>
  simp only [SV.inUb,List.all_eq_true]at h
  exact fun v hv=>V1.inUb_sound (h v hv)
def aeO(U:Nat→Bool)(es:List (Nat×Entry)):Bool:=es.all fun p=>match p.2 with
 | .box _ cs=>cs.all (Cell.inUb U)
 | .tree _ _ _ (some (_,cs))=>cs.all (Cell.inUb U)
 |_=>true
def QQ(look:Nat→Option SS):List Nat→List Nat
 | []=> []
 |t::r=>(match look t with | some x=>x.v.ids | none=> [])++QQ look r
def ac1(look:Nat→Option SS)(ent:Nat→Option Entry)(ids:List Nat)(o:Oper)(new:List Nat):List Nat:=QQ look (Ns (Gi o.op))++(ro (ids.map (Vf ent))++new)
def abZ(s:St)(o:Oper)(g:Option (Nat×Bool))(ids:List Nat)(r:Raw):Option Dl:=
 match g with
 |none=>some ⟨o.dst,⟨none,r.v⟩,r.es,r.new,ids++(sG r.es++r.new),r.nd⟩
 |some p=>match r.es,r.new with
  | [],[]=>some ⟨o.dst,⟨some p,r.v⟩,[],[],ids,Yz s (some p) r.nd⟩
  |es,new=>match acR s 32 (some p)with
   |some c=>match Nt c s.ent es with
    |some es'=>if (aeO (memN (ac1 s.look s.ent ids o new)) es&&(sG es).all (fun i=>(s.ent i).isSome||memN new i))=true then some ⟨o.dst,⟨some p,r.v⟩,es',new,ids++(sG es++new),Yz s (some p) r.nd⟩else none
    |none=>none
   |none=>none
def opD(P:Program)(tbl:List (PF P))(W:Nat→Bool)(ops:List Oper)(s:St)(i:Nat)(o:Oper):Option Dl:=
 match aeR ops o with
 |none=>none
 |some g=>
  bif YY W s o.dst&&Te s g then
   match opR P tbl s.look s.ent (asm s 32 g) ((s.next + i) * 64) o with
   |none=>none
   |some r=>bif r.new.all (fun i=> !s.used i)&&r.v.inUb (memN (ac1 s.look s.ent (Mu s.look s.ent (asm s 32 g) o) o r.new))then abZ s o g (Mu s.look s.ent (asm s 32 g) o) r else none
  else none
section
variable{P:Program}{tbl:List (PF P)}{s:St}{i:Nat}{ops:List Oper}{o:Oper}{d:Dl}{B:Base}{ρ:Nm}{a:Act}{w:World}{K:Act→World→Prop}{Q:Exit→Act→World→Prop}
theorem akK{a:Act}{k:Option Nat}{v:Value}:(a.put k v).tmps.size=a.tmps.size:=by cases k <;> simp [Act.put]
theorem Mdl.step{ρ':Nm}{w':World}{u:Value}(hM:Mdl B ρ s a w)(Cr: ∀ id,s.used id=true→ρ' id=ρ id)(hdst:YY B.W s d.dst=true)(hg:Te s d.v.g=true)
  (hu:u=(match d.v.g with | none=>d.v.v.conc ρ' | some (j,b)=>if yl a.tmps j=some b then d.v.v.conc ρ' else undef)) (BV:d.v.v.inU (bk s.used d.new)) (hp:Hp B ρ' (aZ s.ent d.es) (bk s.used d.new) w'):
  Mdl B ρ' (s.apply d) (a.put d.dst u) w':=by
 have hmono: ∀ id,s.used id=true→bk s.used d.new id=true:=by
  intro id h;simp only [bk];cases memN d.new id <;> simp [h]
 obtain⟨dst,⟨g,v⟩,es,new,ids,nd⟩:=d
 cases dst with
 |none=>
  exact⟨hM.hd,hM.hn,fun k x hk=>(by show a.tmps[k]? =some (SS.at ρ' a.tmps x);rw [hM.hs k x hk,SS.at_congr Cr (hM.hu k x hk) fun _ _ _=>rfl]),hM.hg,fun k x hk=>SV.inU_mono hmono (hM.hu k x hk),hp,hM.hl⟩
 |some k=>
  simp only [YY,w4,Bool.not_eq_true']at hdst
  obtain⟨gm,hwr⟩:=hdst
  obtain⟨gm,hsl⟩:=B.hW k gm
  have hyl: ∀ j,s.wr j=true→yl (a.put (some k) u).tmps j=yl a.tmps j:=fun j hj=>akY fun e=>by subst e;rw [hwr]at hj;cases hj
  refine⟨hM.hd,by rw [akK];exact hM.hn,fun i x hi=> ?_,fun i x j b hi hj=> ?_,fun i x hi=> ?_,hp,fun k' v hv=> ?_⟩
  ·simp only [St.apply]at hi
   cases hb:Nat.beq i k with
   |true=>
    have:=q8 hb;subst this
    simp at hi;subst hi
    have FG:i < a.tmps.size:=by rw [hM.hn];exact gm
    have hput:(a.put (some i) u).tmps[i]? =some u:=by simp only [Act.put,Array.getElem?_setIfInBounds_self_of_lt FG]
    show (a.put (some i) u).tmps[i]? =_
    rw [hput]
    refine congrArg some ?_
    cases g with
    |none=>exact hu
    |some p=>
     obtain⟨j,b⟩:=p
     have hj:s.wr j=true:=hg
     have:=hyl j hj
     refine hu.trans ?_
     show _=SS.at ρ' (a.put (some i) u).tmps _
     simp only [SS.at,this]
   |false=>
    simp [hb]at hi
    have Oc:k≠i:=fun e=>by subst e;simp at hb
    have:(a.put (some k) u).tmps[i]? =a.tmps[i]? :=by simp only [Act.put,Array.getElem?_setIfInBounds_ne Oc]
    rw [this,hM.hs i x hi]
    congr 1
    exact(SS.at_congr Cr (hM.hu i x hi) fun j b hj=>hyl j (hM.hg i x j b hi hj)).symm
  ·simp only [St.apply]at hi ⊢
   cases hb:Nat.beq i k with
   |true=>
    simp [hb]at hi;subst hi
    simp only at hj;subst hj
    have hj:s.wr j=true:=hg
    cases Nat.beq j k <;> simp [hj]
   |false=>
    simp [hb]at hi
    have:=hM.hg i x j b hi hj
    cases Nat.beq j k <;> simp [this]
  ·simp only [St.apply]at hi ⊢
   cases hb:Nat.beq i k with
   |true=>simp [hb]at hi;subst hi;exact BV
   |false=>simp [hb]at hi;exact SV.inU_mono hmono (hM.hu i x hi)
  ·have Oc:k≠k':=fun e=>by subst e;rw [hsl]at hv;cases hv
   have:(a.put (some k) u).tmps[k']? =a.tmps[k']? :=by simp only [Act.put,Array.getElem?_setIfInBounds_ne Oc]
   rw [this];exact hM.hl k' v hv
theorem aiw{g:Option (Nat×Bool)}(h:aeR ops o=some g)(tmps:Array Value):
  Region.wanted o (yielded ops.toArray tmps)=(match g with | none=>true | some p=>yl tmps p.1==some p.2):=by
 unfold aeR at h
 unfold Region.wanted
 cases hg:o.guard with
 |none=>simp [hg]at h;subst h;rfl
 |some q=>
  obtain⟨j,b⟩:=q
  simp only [hg]at h
  split at h
  ·rename_i q hq
   split at h
   ·rename_i k hk
    cases h
    simp only [yielded,List.getElem?_toArray,hq,Option.bind_some,hk,yl]
    rfl
   ·cases h
  ·cases h
theorem Vh(hM:Mdl B ρ s a w): ∀ (f:Nat) (g:Option (Nat×Bool)),(∀ p,g=some p→yl a.tmps p.1=some p.2)→aaL s f g=true
 |0,none,_=>rfl
 |_ + 1,none,_=>rfl
 |0,some p,_=>rfl
 |f + 1,some p,h=>by
  simp only [aaL]
  split
  ·rename_i g c hx
   have hs:=hM.hs _ _ hx
   have hy:=h p rfl
   simp only [yl,hs]at hy
   cases g with
   |none=>
    simp only [SS.at,SV.conc,V1.conc,Cell.conc,w3]at hy
    subst hy
    have:=Vh hM f none (by simp)
    rw [this];cases p.2 <;> rfl
   |some q=>
    obtain⟨j,b⟩:=q
    by_cases hq:yl a.tmps j=some b
    ·simp only [SS.at,hq,if_true,SV.conc,V1.conc,Cell.conc,w3]at hy
     subst hy
     have:=Vh hM f (some (j,b)) (fun r hr=>by cases hr;exact hq)
     rw [this];cases p.2 <;> rfl
    ·simp only [SS.at,hq,if_false,undef]at hy
     cases hy
  ·rfl
theorem Yi(hM:Mdl B ρ s a w): ∀ (f:Nat) (g:Option (Nat×Bool)) (c:Bool),acR s f g=some c→((∀ p,g=some p→yl a.tmps p.1=some p.2)↔c=true)
 |0,none,c,h=>by simp [acR]at h;subst h;simp
 |_ + 1,none,c,h=>by simp [acR]at h;subst h;simp
 |0,some p,c,h=>by simp [acR]at h
 |f + 1,some p,c,h=>by
  simp only [acR]at h
  split at h
  ·rename_i g b hx
   split at h
   ·rename_i c' hc'
    cases h
    have hs:=hM.hs _ _ hx
    have ih:=Yi hM f g c' hc'
    have hy:yl a.tmps p.1=some b∧c'=true∨yl a.tmps p.1=none∧c'=false:=by
     simp only [yl,hs]
     cases g with
     |none=>
      have:c'=true:=ih.1 (by simp)
      subst this;simp [SS.at,SV.conc,V1.conc,Cell.conc]
     |some q=>
      obtain⟨j,b'⟩:=q
      by_cases hq:yl a.tmps j=some b'
      ·have:c'=true:=ih.1 (fun p hp=>by cases hp;exact hq)
       subst this;simp [SS.at,hq,SV.conc,V1.conc,Cell.conc]
      ·have:c'=false:=by
        cases c' with
        |false=>rfl
        |true=>exact(hq (ih.2 rfl _ rfl)).elim
       subst this;simp [SS.at,hq,undef]
    simp only [w3,forall_eq']
    rcases hy with⟨hy,rfl⟩ | ⟨hy,rfl⟩
    ·rw [hy];cases p.2 <;> cases b <;> simp
    ·rw [hy];simp
   ·cases h
  ·cases h
theorem aep(hM:Mdl B ρ s a w){p:Nat×Bool}(hp:yl a.tmps p.1=some p.2){l:List Bool}(h: ∀ b∈Yz s (some p) l,b=true): ∀ b∈l,b=true:=by
 have hg:=Vh hM 32 (some p) (fun q hq=>by cases hq;exact hp)
 cases l with
 |nil=>simp
 |cons x r=>
  intro b hb
  have:=h (!(aaL s 32 (some p))||b) (by simp only [Yz];exact List.mem_map_of_mem hb)
  simpa [hg] using this
end
end Go.SX
namespace Go.SX
open Go.RowKit
section
variable{P:Program}{tbl:List (PF P)}{s:St}{i:Nat}{ops:List Oper}{o:Oper}{d:Dl}{B:Base}{ρ:Nm}{a:Act}{w:World}{K:Act→World→Prop}{Q:Exit→Act→World→Prop}
theorem Hp.swap{ent1 ent2:Nat→Option Entry}{used:Nat→Bool}(h:Hp B ρ ent1 used w)
  (hs: ∀ id e2,ent2 id=some e2→ ∃ e1,ent1 id=some e1∧e2.holds B ρ w id∧e2.ob ρ id=e1.ob ρ id∧e2.inU used):Hp B ρ ent2 used w:=by
 refine⟨fun id e he=> ?_,fun id id' e e' b he he' hb hb'=> ?_,h.hf⟩
 ·obtain⟨e1,h1,h2,_,h4⟩:=hs id e he
  exact⟨h2,(h.he id e1 h1).2.1,h4⟩
 ·obtain⟨e1,h1,_,h3,_⟩:=hs id e he
  obtain⟨e1',h1',_,h3',_⟩:=hs id' e' he'
  rw [h3]at hb;rw [h3']at hb'
  exact h.hi id id' e1 e1' b h1 h1' hb hb'
theorem Hp.lessG{ent1 ent2:Nat→Option Entry}{used:Nat→Bool}(h:Hp B ρ ent1 used w)
  (hs: ∀ id e2,ent2 id=some e2→ ∃ e1,ent1 id=some e1∧e2.holds B ρ w id∧(∀ b∈e2.ob ρ id,b∈e1.ob ρ id)∧e2.inU used):Hp B ρ ent2 used w:=by
 refine⟨fun id e he=> ?_,fun id id' e e' b he he' hb hb'=> ?_,h.hf⟩
 ·obtain⟨e1,h1,h2,_,h4⟩:=hs id e he
  exact⟨h2,(h.he id e1 h1).2.1,h4⟩
 ·obtain⟨e1,h1,_,h3,_⟩:=hs id e he
  obtain⟨e1',h1',_,h3',_⟩:=hs id' e' he'
  exact h.hi id id' e1 e1' b h1 h1' (h3 b hb) (h3' b hb')
theorem look?_guardEs{c:Bool}{ent:Nat→Option Entry}: ∀ {es es':List (Nat×Entry)},Nt c ent es=some es'→
  sG es'=sG es∧ ∀ i e2,look? es' i=some e2→ ∃ e,look? es i=some e∧ad5 c e (ent i)=some e2
 | [],es',h=>by simp [Nt]at h;subst h;exact⟨rfl,fun i e2 he=>by simp [look?]at he⟩
 |p::r,es',h=>by
  simp only [Nt]at h
  split at h
  ·rename_i e es h1 h2
   cases h
   obtain⟨k1,k2⟩:=look?_guardEs h2
   refine⟨by simp only [sG,w8]at k1 ⊢;rw [k1],fun i e2 he=> ?_⟩
   simp only [look?]at he ⊢
   cases hb:Nat.beq p.1 i with
   |true=>
    have:=q8 hb;subst this
    simp at he;subst he
    exact⟨p.2,by simp,h1⟩
   |false=>simp [hb]at he;simpa using k2 i e2 he
  ·cases h
theorem Vi{used:Nat→Bool}{id:Nat}{e e2:Entry}{old:Option Entry}(h:It true e old=some e2)(hh:e.holds B ρ w id)(BV:e.inU used):e2.holds B ρ w id∧e2.ob ρ id=e.ob ρ id∧e2.inU used:=by
 unfold It at h
 split at h
 ·cases h;exact⟨hh,rfl,BV⟩
 ·rename_i own e0 t xs own' e' t' xs'
  split at h
  ·rename_i ht
   subst ht
   cases hb:(own==own'&&Nat.beq e0 e')with
   |false=>simp [hb]at h
   |true=>simp only [hb,cond_true]at h;cases h;exact⟨hh,rfl,BV⟩
  ·cases h
 ·rename_i T cs T' cs'
  cases hb:Nat.beq T T' with
  |false=>simp [hb]at h
  |true=>
   simp only [hb,cond_true,q9]at h
   obtain⟨ms,hm,rfl⟩:=h
   obtain⟨b,k1,k2,k3,k4⟩:=hh
   have:=(yZ ρ hm).1
   simp only [cond_true]at this
   exact⟨⟨b,k1,by rw [this];exact k2,k3,k4⟩,rfl,LS BV hm⟩
 ·cases h;exact⟨hh,rfl,BV⟩
 ·rename_i e0 t xs e' t' xs'
  split at h
  ·rename_i ht
   subst ht
   cases hb:Nat.beq e0 e' with
   |false=>simp [hb]at h
   |true=>simp only [hb,cond_true]at h;cases h;exact⟨hh,rfl,BV⟩
  ·cases h
 ·rename_i e0 t xs e' t' xs'
  split at h
  ·rename_i ht
   subst ht
   cases hb:Nat.beq e0 e' with
   |false=>simp [hb]at h
   |true=>simp only [hb,cond_true]at h;cases h;exact⟨hh,rfl,BV⟩
  ·cases h
 ·cases h;exact⟨hh,rfl,BV⟩
 ·cases h;exact⟨hh,rfl,BV⟩
 ·cases h;exact⟨hh,rfl,BV⟩
 ·cases h
theorem ad4{used:Nat→Bool}{id:Nat}{e e2 old:Entry}(h:It false e (some old)=some e2)(hin0: ∀ T cs,e= .box T cs→ ∀ c∈cs,c.inU used)(hh:old.holds B ρ w id):e2.holds B ρ w id∧e2.ob ρ id=old.ob ρ id∧e2.inU used:=by
 unfold It at h
 split at h
 ·rename_i Lq;cases Lq
 ·rename_i own e0 t xs own' e' t' xs' Lq
  cases Lq
  split at h
  ·rename_i ht
   subst ht
   cases hb:(own==own'&&Nat.beq e0 e')with
   |false=>simp [hb]at h
   |true=>
    simp only [hb,cond_true]at h;cases h
    simp only [w4,beq_iff_eq]at hb
    obtain⟨rfl,h2⟩:=hb
    have:=q8 h2;subst this
    exact⟨hh,rfl,trivial⟩
  ·cases h
 ·rename_i T cs T' cs' Lq
  cases Lq
  cases hb:Nat.beq T T' with
  |false=>simp [hb]at h
  |true=>
   have:=q8 hb;subst this
   simp only [hb,cond_true,q9]at h
   obtain⟨ms,hm,rfl⟩:=h
   obtain⟨b,k1,k2,k3,k4⟩:=hh
   have:=(yZ ρ hm).1
   simp only [cond_false]at this
   exact⟨⟨b,k1,by rw [this];exact k2,k3,k4⟩,rfl,LS (hin0 T cs rfl) hm⟩
 ·rename_i Lq;cases Lq
 ·rename_i e0 t xs e' t' xs' Lq
  cases Lq
  split at h
  ·rename_i ht
   subst ht
   cases hb:Nat.beq e0 e' with
   |false=>simp [hb]at h
   |true=>
    simp only [hb,cond_true]at h;cases h
    have:=q8 hb;subst this
    exact⟨hh,rfl,trivial⟩
  ·cases h
 ·rename_i e0 t xs e' t' xs' Lq
  cases Lq
  split at h
  ·rename_i ht
   subst ht
   cases hb:Nat.beq e0 e' with
   |false=>simp [hb]at h
   |true=>
    simp only [hb,cond_true]at h;cases h
    have:=q8 hb;subst this
    exact⟨hh,rfl,trivial⟩
  ·cases h
 ·rename_i Lq;cases Lq;cases h;exact⟨hh,rfl,trivial⟩
 ·rename_i Lq;cases Lq;cases h;exact⟨trivial,rfl,trivial⟩
 ·rename_i Lq;cases Lq
 ·cases h
theorem af6{c:Bool}{e e2:Entry}(h:It c e none=some e2):(∃ own e0 t xs,e2= .row own e0 t (cond c xs []))∨(∃ e0 t xs,e2= .tree e0 t (cond c xs []) none)∨e2= .gone:=by
 unfold It at h
 split at h
 ·cases h;exact .inl ⟨_,_,_,_,rfl⟩
 ·rename_i Lq;cases Lq
 ·rename_i Lq;cases Lq
 ·cases h;exact .inr (.inl ⟨_,_,_,rfl⟩)
 ·rename_i Lq;cases Lq
 ·rename_i Lq;cases Lq
 ·rename_i Lq;cases Lq
 ·rename_i Lq;cases Lq
 ·cases h;exact .inr (.inr rfl)
 ·cases h
theorem abW{U:Nat→Bool}: ∀ {es:List (Nat×Entry)} {i:Nat} {e:Entry},aeO U es=true→look? es i=some e→e.inU U
 | [],i,e,_,h=>by simp [look?]at h
 |p::r,i,e,hb,h=>by
  simp only [aeO,List.all_cons,w4]at hb
  simp only [look?]at h
  cases hq:Nat.beq p.1 i with
  |true=>
   simp [hq]at h;subst h
   cases he:p.2 with
   |box T cs=>
    rw [he]at hb
    have:=hb.1
    simp only [List.all_eq_true]at this
    exact fun c hc=>Cell.inUb_sound (this c hc)
   |tree e t xs ho=>
    cases ho with
    |none=>trivial
    |some q=>
     rw [he]at hb
     have:=hb.1
     simp only [List.all_eq_true]at this
     exact fun c hc=>Cell.inUb_sound (this c hc)
   |_=>trivial
  |false=>simp [hq]at h;exact abW (es:=r) (by simp only [aeO];exact hb.2) h
theorem Hp.idle{ent:Nat→Option Entry}{used:Nat→Bool}(h:Hp B ρ ent used w){es es':List (Nat×Entry)}{new:List Nat}(hg:Nt false ent es=some es')(jM: ∀ i∈new,used i=false)
  (hk: ∀ i∈sG es,ent i=none→i∈new) (BV:aeO (bk used new) es=true):
  Ext B used ρ (Gh ρ new)∧Hp B (Gh ρ new) (aZ ent es') (bk used new) w:=by
 obtain⟨k1,k2⟩:=look?_guardEs hg
 have Ff: ∀ id,used id=true→Gh ρ new id=ρ id:=fun id jy=>by
  have:memN new id=false:=by
   cases hm:memN new id with
   |false=>rfl
   |true=>rw [jM id (memN_mem.1 hm)]at jy;cases jy
  simp [Nm.of,Gh,this]
 have hnil: ∀ id∈new,Gh ρ new id= .slice none 0 0:=fun id jy=>by
  simp [Nm.of,Gh,memN_mem.2 jy,HX]
 let esN:=es'.filter fun p=>(ent p.1).isNone
 have hlookN: ∀ i e,look? esN i=some e→look? es' i=some e∧ent i=none:=by
  intro i e he
  have: ∀ l:List (Nat×Entry),look? (l.filter fun p=>(ent p.1).isNone) i=some e→look? l i=some e∧ent i=none:=by
   intro l
   induction l with
   |nil=>intro h;simp [look?]at h
   |cons p r ih=>
    intro h
    simp only [List.filter_cons]at h
    split at h
    ·rename_i hp
     simp only [look?]at h ⊢
     cases hb:Nat.beq p.1 i with
     |true=>
      have:=q8 hb;subst this
      simp at h;subst h
      exact⟨by simp,by simpa using hp⟩
     |false=>simp [hb]at h;simpa using ih h
    ·rename_i hp
     obtain⟨h1,h2⟩:=ih h
     refine⟨?_,h2⟩
     simp only [look?]
     cases hb:Nat.beq p.1 i with
     |true=>
      have:=q8 hb;subst this
      rw [h2]at hp;simp at hp
     |false=>exact h1
  exact this es' he
 have hlookN': ∀ i e,look? es' i=some e→ent i=none→look? esN i=some e:=by
  intro i e he hn
  have: ∀ l:List (Nat×Entry),look? l i=some e→look? (l.filter fun p=>(ent p.1).isNone) i=some e:=by
   intro l
   induction l with
   |nil=>intro h;exact h
   |cons p r ih=>
    intro h
    simp only [look?]at h
    simp only [List.filter_cons]
    cases hb:Nat.beq p.1 i with
    |true=>
     have:=q8 hb;subst this
     simp at h;subst h
     simp [hn,look?]
    |false=>
     simp [hb]at h
     split
     ·simp only [look?,hb];exact ih h
     ·exact ih h
  exact this es' he
 obtain⟨hX,hp⟩:=h.names (ρ':=Gh ρ new) (es:=esN) (new:=new) Ff rfl (hfp:=fun id jy _=>by
   have:memN new id=false:=by
    cases hm:memN new id with
    |false=>rfl
    |true=>rw [jM id (memN_mem.1 hm)]at jy;cases jy
   simp [Gh,this]) fun id e he=>by
  obtain⟨h1,h2⟩:=hlookN id e he
  obtain⟨e0,h3,h4⟩:=k2 id e h1
  rw [h2]at h4
  have jy:id∈new:=hk id (ab8 h3) h2
  have hv:=hnil id jy
  have hfp:(Gh ρ new).fp id= []:=by simp [Gh,memN_mem.2 jy]
  have h4:It false e0 none=some e:=(Td h4).elim (fun h=>h) fun⟨_,_,_,h⟩=>by cases h
  rcases af6 h4 with⟨own,e1,t,xs,rfl⟩ | ⟨e1,t,xs,rfl⟩ | rfl
  rotate_left 2
  ·exact⟨trivial,vM jy,trivial,rfl⟩
  rotate_left
  ·refine⟨?_,vM jy,trivial,by simp [Entry.ob,hv,fB,hfp]⟩
   simp only [Entry.holds,hv,hfp,cond_false]
   exact⟨[],[],Sm _ _ _,Of.nil _ _ _,rfl,by simp [fB],by simp [fB]⟩
  refine⟨?_,vM jy,trivial,?_⟩
  ·cases own with
   |false=>simp only [Entry.holds,hv,cond_false];exact .inl ⟨.inl rfl,rfl⟩
   |true=>simp only [Entry.holds,hv,cond_false];exact⟨[],Sm _ _ _,jY.nil _ _,by simp [fB]⟩
  ·cases own <;> simp [Entry.ob,hv,fB]
 refine⟨hX,hp.lessG fun id e2 he=> ?_⟩
 simp only [aZ]at he ⊢
 cases hl:look? es' id with
 |none=>
  simp [hl]at he
  have hlN:look? esN id=none:=by
   cases hq:look? esN id with
   |none=>rfl
   |some e=>rw [(hlookN id e hq).1]at hl;cases hl
  refine⟨e2,by simp only [hlN];exact he,?_⟩
  have:=hp.he id e2 (by simp only [aZ,hlN];exact he)
  exact⟨this.1,fun _ h=>h,this.2.2⟩
 |some e=>
  simp [hl]at he;subst he
  cases hn:ent id with
  |none=>
   have hlN:=hlookN' id e hl hn
   refine⟨e,by simp only [hlN],?_⟩
   have:=hp.he id e (by simp only [aZ,hlN])
   exact⟨this.1,fun _ h=>h,this.2.2⟩
  |some old=>
   have hlN:look? esN id=none:=by
    cases hq:look? esN id with
    |none=>rfl
    |some e=>rw [(hlookN id e hq).2]at hn;cases hn
   obtain⟨e0,h3,h4⟩:=k2 id e hl
   rw [hn]at h4
   have hold:=hp.he id old (by simp only [aZ,hlN];exact hn)
   rcases Td h4 with h4 | ⟨_,rfl,_⟩
   rotate_left
   ·exact⟨old,by simp only [hlN],trivial,fun _ h=>(by cases h),trivial⟩
   obtain⟨g1,g2,g3⟩:=ad4 (used:=bk used new) h4 (fun T cs hb=>by
    have:=abW BV h3
    rw [hb]at this;exact this) hold.1
   exact⟨old,by simp only [hlN],g1,fun b hb=>by rw [← g2];exact hb,g3⟩
theorem Hp.busy{ent:Nat→Option Entry}{used:Nat→Bool}{es es':List (Nat×Entry)}(h:Hp B ρ (aZ ent es) used w)(hg:Nt true ent es=some es'):Hp B ρ (aZ ent es') used w:=by
 obtain⟨k1,k2⟩:=look?_guardEs hg
 refine h.lessG fun id e2 he=> ?_
 simp only [aZ]at he
 cases hl:look? es' id with
 |none=>
  simp [hl]at he
  have hl0:look? es id=none:=by
   by_cases hm:id∈sG es
   ·rw [← k1]at hm
    exfalso
    have: ∀ l:List (Nat×Entry),id∈sG l→look? l id≠none:=by
     intro l
     induction l with
     |nil=>intro h;simp [sG]at h
     |cons p r ih=>
      intro h
      simp only [sG,w8,List.mem_cons]at h
      simp only [look?]
      cases hb:Nat.beq p.1 id with
      |true=>simp
      |false=>
       rcases h with rfl | h
       ·simp at hb
       ·exact ih h
    exact this es' hm hl
   ·cases hq:look? es id with
    |none=>rfl
    |some e=>exact(hm (ab8 hq)).elim
  have:=h.he id e2 (by simp only [aZ,hl0];exact he)
  exact⟨e2,by simp only [aZ,hl0];exact he,this.1,fun _ h=>h,this.2.2⟩
 |some e=>
  simp [hl]at he;subst he
  obtain⟨e0,h3,h4⟩:=k2 id e hl
  have:=h.he id e0 (by simp only [aZ,h3])
  rcases Td h4 with h4 | ⟨_,rfl,_⟩
  rotate_left
  ·exact⟨e0,by simp only [aZ,h3],trivial,fun _ h=>(by cases h),trivial⟩
  obtain⟨g1,g2,g3⟩:=Vi (used:=used) h4 this.1 this.2.2
  exact⟨e0,by simp only [aZ,h3],g1,fun b hb=>by rw [← g2];exact hb,g3⟩
theorem ids_inU{U:Nat→Bool}{c:Cell}(h:c.inU U): ∀ i∈c.ids,U i=true:=by
 cases c with
 |val v=>intro i hi;simp [Cell.ids]at hi
 |ptr id off=>intro i hi;simp [Cell.ids]at hi;subst hi;exact h
 |ref id=>intro i hi;simp [Cell.ids]at hi;subst hi;exact h
 |el id z k off=>intro i hi;simp [Cell.ids]at hi;subst hi;exact h
 |vw id z k=>intro i hi;simp [Cell.ids]at hi;subst hi;exact h
 |clo f caps=>exact fun i hi=>h i hi
 |bnd f vs=>exact fun i hi=>h i hi
theorem OX{α:Type}{i:α}: ∀ {l:List (List α)},i∈ro l→ ∃ x∈l,i∈x
 | [],h=>by simp [ro]at h
 |a::l,h=>by
  simp only [ro,w7]at h
  rcases h with h | h
  ·exact⟨a,by simp,h⟩
  ·obtain⟨x,h1,h2⟩:=OX h;exact⟨x,by simp [h1],h2⟩
theorem V1.ids_inU{U:Nat→Bool}{v:V1}(h:v.inU U): ∀ i∈v.ids,U i=true:=by
 intro i hi
 obtain⟨x,h1,h2⟩:=OX hi
 obtain⟨c,h3,rfl⟩:=List.mem_map.1 h1
 exact SX.ids_inU (h c h3) i h2
theorem SV.ids_inU{U:Nat→Bool}{v:SV}(h:v.inU U): ∀ i∈v.ids,U i=true:=by
 cases v with
 |one v=>exact V1.ids_inU h
 |tup vs=>
  intro i hi
  obtain⟨x,h1,h2⟩:=OX hi
  obtain⟨c,h3,rfl⟩:=List.mem_map.1 h1
  exact V1.ids_inU (h c h3) i h2
theorem ZI(hM:Mdl B ρ s a w): ∀ (l:List Nat),∀ i∈QQ s.look l,s.used i=true
 | [],i,h=>by simp [QQ]at h
 |t::r,i,h=>by
  simp only [QQ,w7]at h
  rcases h with h | h
  ·split at h
   ·rename_i x hx;exact SV.ids_inU (hM.hu t x hx) i h
   ·cases h
  ·exact ZI hM r i h
theorem adJ(hM:Mdl B ρ s a w){ids new:List Nat}: ∀ i,memN (ac1 s.look s.ent ids o new) i=true→bk s.used new i=true:=by
 intro i hi
 have hi:=memN_mem.1 hi
 simp only [ac1,w7]at hi
 rcases hi with hi | hi | hi
 ·exact ic _ (ZI hM _ i hi)
 ·obtain⟨x,h1,h2⟩:=OX hi
  obtain⟨k,_,rfl⟩:=List.mem_map.1 h1
  unfold Vf at h2
  split at h2
  ·rename_i e he
   cases e with
   |box T cs=>
    obtain⟨x,h3,h4⟩:=OX (show i∈ro (cs.map Cell.ids) from h2)
    obtain⟨c,h5,rfl⟩:=List.mem_map.1 h3
    exact ic _ (SX.ids_inU ((hM.he k _ he).2.2 c h5) i h4)
   |tree e t xs ho=>
    cases ho with
    |none=>cases h2
    |some q=>
     obtain⟨x,h3,h4⟩:=OX (show i∈ro (q.2.map Cell.ids) from h2)
     obtain⟨c,h5,rfl⟩:=List.mem_map.1 h3
     exact ic _ (SX.ids_inU ((hM.he k _ he).2.2 c h5) i h4)
   |_=>cases h2
  ·cases h2
 ·exact vM hi
theorem Cell.inUb_mono{U U':Nat→Bool}(h: ∀ i,U i=true→U' i=true){c:Cell}(hc:c.inUb U=true):c.inUb U'=true:=by
 simp only [Cell.inUb,List.all_eq_true]at hc ⊢
 exact fun i hi=>h i (hc i hi)
theorem ahx{U U':Nat→Bool}(h: ∀ i,U i=true→U' i=true){es:List (Nat×Entry)}(hc:aeO U es=true):aeO U' es=true:=by
 simp only [aeO,List.all_eq_true]at hc ⊢
 intro p hp
 have:=hc p hp
 cases he:p.2 with
 |box T cs=>
  rw [he]at this
  simp only [List.all_eq_true]at this ⊢
  exact fun c Tg=>Cell.inUb_mono h (this c Tg)
 |tree e t xs ho=>
  cases ho with
  |none=>rfl
  |some q=>
   rw [he]at this
   simp only [List.all_eq_true]at this ⊢
   exact fun c Tg=>Cell.inUb_mono h (this c Tg)
 |_=>rfl
theorem ahi(hM:Mdl B ρ s a w)(hi:ops[i]? =some o)(h:opD P tbl B.W ops s i o=some d)(dq: ∀ b∈d.nd,b=true)(hK: ∀ ρ' a' w',Ext B s.used ρ ρ'→Mdl B ρ' (s.apply d) a' w'→K a' w'):wpOp P ops.toArray Q i K a w:=by
 unfold opD at h
 split at h
 ·cases h
 ·rename_i g hg
  have hw:=aiw hg a.tmps
  cases ii:(YY B.W s o.dst&&Te s g)with
  |false=>simp [ii]at h
  |true=>
   simp only [ii,cond_true]at h
   obtain⟨hdst,hgo⟩:=Bool.and_eq_true_iff.1 ii
   split at h
   ·cases h
   ·rename_i r hr
    cases hck:(r.new.all (fun i=> !s.used i)&&r.v.inUb (memN (ac1 s.look s.ent (Mu s.look s.ent (asm s 32 g) o) o r.new)))with
    |false=>simp [hck]at h
    |true=>
     simp only [hck,cond_true]at h
     obtain⟨hck1,hck2⟩:=Bool.and_eq_true_iff.1 hck
     have jM: ∀ i∈r.new,s.used i=false:=fun i hi=>by simpa using List.all_eq_true.1 hck1 i hi
     have BV:=SV.inU_mono (adJ hM) (SV.inUb_sound hck2)
     unfold wpOp
     simp only [List.getElem?_toArray,hi]
     cases g with
     |none=>
      simp only [abZ,w3]at h
      subst h
      simp only [hw,if_true]
      have c:Ctx B ρ s a w (rsF s.look (Ns (Gi o.op))) (rsF s.ent (Mu s.look s.ent (asm s 32 none) o)) (asm s 32 none):=⟨hM,ZF,ZF,ZP hM 32 none (by simp)⟩
      refine .inl (adz c hr jM dq fun ρ' u w' hx hu hp=> ?_)
      exact hK ρ' _ _ hx (hM.step (d:=⟨o.dst,⟨none,r.v⟩,r.es,r.new,_,r.nd⟩) hx.nm hdst rfl hu BV hp)
     |some p=>
      cases hy:(yl a.tmps p.1==some p.2)with
      |true=>
       simp only [hw,hy,if_true]
       have hy':yl a.tmps p.1=some p.2:=by simpa using hy
       have c:Ctx B ρ s a w (rsF s.look (Ns (Gi o.op))) (rsF s.ent (Mu s.look s.ent (asm s 32 (some p)) o)) (asm s 32 (some p)):=⟨hM,ZF,ZF,ZP hM 32 (some p) (fun q hq=>by cases hq;exact hy')⟩
       have hndr: ∀ b∈r.nd,b=true:=by
        refine aep hM hy' fun b hb=>dq b ?_
        unfold abZ at h
        simp only at h
        split at h
        ·cases h;exact hb
        ·split at h
         ·split at h
          ·split at h
           ·cases h;exact hb
           ·cases h
          ·cases h
         ·cases h
       refine .inl (adz c hr jM hndr fun ρ' u w' hx hu hp=> ?_)
       unfold abZ at h
       simp only at h
       split at h
       ·rename_i h1 h2
        cases h
        rw [h1,h2]at hp
        rw [h2]at BV
        exact hK ρ' _ _ hx (hM.step (d:=⟨o.dst,⟨some p,r.v⟩,[],[],_,_⟩) hx.nm hdst hgo (by simp only [hy',if_true];exact hu) BV hp)
       ·split at h
        ·rename_i cc Tg
         have hct:cc=true:=(Yi hM 32 (some p) cc Tg).1 (fun q hq=>by cases hq;exact hy')
         subst hct
         split at h
         ·rename_i es' hes'
          split at h
          ·cases h
           exact hK ρ' _ _ hx (hM.step (d:=⟨o.dst,⟨some p,r.v⟩,es',r.new,_,_⟩) hx.nm hdst hgo (by simp only [hy',if_true];exact hu) BV (hp.busy hes'))
          ·cases h
         ·cases h
        ·cases h
      |false=>
       simp only [hw,hy,Bool.false_eq_true,if_false]
       have hy': ¬ yl a.tmps p.1=some p.2:=by simpa using hy
       unfold abZ at h
       simp only at h
       split at h
       ·rename_i h1 h2
        cases h
        rw [h2]at BV
        exact hK ρ _ _ (Ext.refl _ _ _) (hM.step (d:=⟨o.dst,⟨some p,r.v⟩,[],[],_,_⟩) (fun _ _=>rfl) hdst hgo (by simp only [hy',if_false]) BV hM.hp)
       ·split at h
        ·rename_i cc Tg
         have hcf:cc=false:=by
          cases cc with
          |false=>rfl
          |true=>exact(hy' ((Yi hM 32 (some p) true Tg).2 rfl p rfl)).elim
         subst hcf
         split at h
         ·rename_i es' hes'
          split at h
          ·rename_i hb
           cases h
           simp only [w4,List.all_eq_true,Bool.or_eq_true]at hb
           obtain⟨hx,hp⟩:=hM.hp.idle hes' jM (fun i hi hn=>by
            rcases hb.2 i hi with h | h
            ·rw [hn]at h;cases h
            ·exact memN_mem.1 h) (ahx (adJ hM) hb.1)
           exact hK _ _ _ hx (hM.step (d:=⟨o.dst,⟨some p,r.v⟩,es',r.new,_,_⟩) hx.nm hdst hgo (by simp only [hy',if_false]) BV hp)
          ·cases h
         ·cases h
        ·cases h
end
end Go.SX
namespace Go.SX
open Go.RowKit
structure Inf where
 d:Dl
 rs:List Nat
def looks(ops:List Oper)(s:St)(o:Oper):List Nat:=
 Ns (Gi o.op)++(match aeR ops o with | some g=>(asm s 32 g).map (·.1) | none=> [])
def aaB(P:Program)(tbl:List (PF P))(W:Nat→Bool)(ops:List Oper):St→Nat→List Oper→Option (St×List Inf)
 |s,_,[]=>some (s,[])
 |s,i,o::r=>match opD P tbl W ops s i o with
  |none=>none
  |some d=>match aaB P tbl W ops (s.apply d) (i + 1) r with
   |some (s',l)=>some (s',⟨d,looks ops s o⟩::l)
   |none=>none
def St.clean(s:St):St:=
 {s with look:=fun k=>match s.look k with | some ⟨none,v⟩=>some ⟨none,v⟩ | _=>none,wr:=fun _=>false }
def Yd:List Inf→List Nat
 | []=> []
 |x::r=>match x.d.dst with
  |some k=>k::Yd r
  |none=>Yd r
def aaI:List Inf→List Nat
 | []=> []
 |x::r=>wids' x.d++aaI r
 where wids' (d:Dl):List Nat:=d.es.map (·.1)++d.new
def St.fin(s:St)(k:Nat)(l:List Inf):St:= { s.clean with next:=s.next + k,log:=Yd l++s.log,logE:=aaI l++s.logE }
def Zs:List Inf→List Bool
 | []=> []
 |x::r=>x.d.nd++Zs r
def Yo(acc:List Nat):List Edge→Nat
 | []=>0
 |e::r=>bif Region.binds .any e then 2 ^ e.on||| ((acc[e.on]?).getD 0||| Yo acc r)else Yo acc r
def ack:List Nat→List Oper→List Nat
 |acc,[]=>acc
 |acc,o::r=>ack (acc++ [Yo acc o.after.toList]) r
def agT:Nat→List Oper→Bool
 |_,[]=>true
 |i,o::r=>o.after.toList.all (fun e=> !Region.binds .any e||Nat.blt e.on i)&&agT (i + 1) r
def meets:List Nat→List Nat→Bool
 | [],_=>false
 |x::r,l=>bif memN l x then true else meets r l
def adA:Option Nat→List Nat→Bool
 |none,_=>false
 |some k,l=>memN l k
def acs:Option Nat→Option Nat→Bool
 |some a,some b=>Nat.beq a b
 |_,_=>false
def Qi(d:Dl):List Nat:=d.es.map (·.1)++d.new
def Pg(x y:Inf):Bool:=adA x.d.dst y.rs||adA y.d.dst x.rs||acs x.d.dst y.d.dst||meets (Qi x.d) y.d.ids||meets (Qi y.d) x.d.ids
def Zh(ms:List Nat)(i:Nat)(x:Inf):Nat→List Inf→Bool
 |_,[]=>true
 |j,y::r=>(!Pg x y||((ms[j]?).getD 0).testBit i)&&Zh ms i x (j + 1) r
def Vm(ms:List Nat):Nat→List Inf→Bool
 |_,[]=>true
 |i,x::r=>Zh ms i x (i + 1) r&&Vm ms (i + 1) r
def aeY(ops:List Oper)(l:List Inf):Bool:=agT 0 ops&&Vm (ack [] ops) 0 l
def agd:List (Nat×Entry)→List Nat
 | []=> []
 |(id,.tree _ _ _ (some _))::r=>id::agd r
 |_::r=>agd r
def ad6:List Inf→List Nat
 | []=> []
 |x::r=>agd x.d.es++ad6 r
def Yb(s:St)(id:Nat):St:=
 match s.ent id with
 |some (.tree e t xs (some (k,hc)))=>match AN s.ent t hc with
  |some (y,ids)=>bif To ids then { s with ent:=aZ s.ent ((id,.tree e t (xs.set k y) none)::NE ids),logE:=id::(ids++s.logE) } else s
  |none=>s
 |_=>s
def abV(s:St)(id:Nat):St:=
 match s.ent id with
 |some (.tree _ _ _ (some _))=> { s with ent:=aZ s.ent [(id,.gone)],logE:=id::s.logE }
 |_=>s
def adU(tk:Bool):List Nat→St→St
 | [],s=>s
 |id::r,s=>adU tk r (bif tk then abV s id else Yb s id)
def Ph(P:Program)(tbl:List (PF P))(W:Nat→Bool)(s:St)(ops:List Oper)(draw:Bool):Option (St×List Bool):=
 match aaB P tbl W ops s.clean 0 ops with
 |some (s',l)=>bif !draw||aeY ops l then some (adU (PF.takes tbl) (ad6 l) (s'.fin ops.length l),Zs l)else none
 |none=>none
section
variable{P:Program}{tbl:List (PF P)}{s:St}{i:Nat}{ops:List Oper}{o:Oper}{d:Dl}{B:Base}{ρ:Nm}{a:Act}{w:World}{K:Act→World→Prop}{Q:Exit→Act→World→Prop}
theorem ahu(hM:Mdl B ρ s a w)(id:Nat): ∃ ρ':Nm,Ext B s.used ρ ρ'∧Mdl B ρ' (Yb s id) a w:=by
 unfold Yb
 split
 ·rename_i e t xs k hc he
  split
  ·rename_i y ids Rt
   cases hb:To ids with
   |false=>exact⟨ρ,Ext.refl _ _ _,hM⟩
   |true=>
    obtain⟨ρ',x1,h1⟩:=hM.hp.treeClose he Rt (Tp hb)
    refine⟨ρ',x1,hM.hd,hM.hn,fun k x hk=> ?_,hM.hg,hM.hu,h1,hM.hl⟩
    rw [hM.hs k x hk,SS.at_congr (U:=s.used) x1.nm (hM.hu k x hk) (fun _ _ _=>rfl)]
  ·exact⟨ρ,Ext.refl _ _ _,hM⟩
 ·exact⟨ρ,Ext.refl _ _ _,hM⟩
theorem aeG(s:St)(id:Nat):(Yb s id).used=s.used:=by
 unfold Yb
 split
 ·split
  ·rename_i ids _
   cases To ids <;> rfl
  ·rfl
 ·rfl
theorem aii(hM:Mdl B ρ s a w)(id:Nat):Mdl B ρ (abV s id) a w:=by
 unfold abV
 split
 ·rename_i e t xs q he
  refine⟨hM.hd,hM.hn,hM.hs,hM.hg,hM.hu,?_,hM.hl⟩
  have hp:=hM.hp
  have key: ∀ i e2,aZ s.ent [(id,Entry.gone)] i=some e2→(i=id∧e2= .gone)∨s.ent i=some e2:=by
   intro i e2 h2
   simp only [aZ,look?]at h2
   cases hb:Nat.beq id i with
   |true=>rw [hb]at h2;simp only [cond_true,w3]at h2;exact .inl ⟨(q8 hb).symm,h2.symm⟩
   |false=>rw [hb]at h2;exact .inr h2
  refine⟨fun i e2 h2=> ?_,fun i j e2 e3 b h2 h3 hb2 hb3=> ?_,hp.hf⟩
  ·rcases key i e2 h2 with⟨rfl,rfl⟩ | h2
   ·exact⟨trivial,(hp.he _ _ he).2.1,trivial⟩
   ·exact hp.he _ _ h2
  ·rcases key i e2 h2 with⟨rfl,rfl⟩ | h2
   ·cases hb2
   ·rcases key j e3 h3 with⟨rfl,rfl⟩ | h3
    ·cases hb3
    ·exact hp.hi i j e2 e3 b h2 h3 hb2 hb3
 ·exact hM
theorem afZ(s:St)(id:Nat):(abV s id).used=s.used:=by
 unfold abV
 split <;> rfl
theorem ZW: ∀ (tk:Bool) (l:List Nat) {s:St} {ρ:Nm},Mdl B ρ s a w→ ∃ ρ':Nm,Ext B s.used ρ ρ'∧Mdl B ρ' (adU tk l s) a w
 |_,[],s,ρ,hM=>⟨ρ,Ext.refl _ _ _,hM⟩
 |true,id::r,s,ρ,hM=>by
  obtain⟨ρ2,x2,h2⟩:=ZW true r (aii hM id)
  rw [afZ]at x2
  exact⟨ρ2,x2,h2⟩
 |false,id::r,s,ρ,hM=>by
  obtain⟨ρ1,x1,h1⟩:=ahu hM id
  obtain⟨ρ2,x2,h2⟩:=ZW false r h1
  rw [aeG]at x2
  exact⟨ρ2,x1.trans x2 fun _ h=>h,h2⟩
theorem Mdl.clean(h:Mdl B ρ s a w):Mdl B ρ s.clean a w:=by
 have key: ∀ k x,s.clean.look k=some x→s.look k=some x∧x.g=none:=by
  intro k x hx
  simp only [St.clean]at hx
  split at hx
  ·rename_i v hv;cases hx;exact⟨hv,rfl⟩
  ·cases hx
 exact⟨h.hd,h.hn,fun k x hx=>h.hs k x (key k x hx).1,fun k x j b hx hj=>(by rw [(key k x hx).2]at hj;cases hj),fun k x hx=>h.hu k x (key k x hx).1,h.hp,h.hl⟩
theorem Mdl.fin(h:Mdl B ρ s a w)(k:Nat)(l:List Inf):Mdl B ρ (s.fin k l) a w:=by
 have:=h.clean
 exact⟨this.hd,this.hn,this.hs,this.hg,this.hu,this.hp,this.hl⟩
theorem XZ{id:Nat}(h:s.used id=true):(s.apply d).used id=true:=by
 simp only [St.apply,bk];cases memN d.new id <;> simp [h]
theorem acC: ∀ (r:List Oper) (i:Nat) (s s':St) (l:List Inf),(∀ j,r[j]? =ops[i + j]?)→aaB P tbl B.W ops s i r=some (s',l)→(∀ b∈Zs l,b=true)→ ∀ (ρ:Nm) (a:Act) (w:World),Mdl B ρ s a w→
  (∀ ρ' a' w',Ext B s.used ρ ρ'→Mdl B ρ' s' a' w'→Q .normal a' w')→wpOps P ops.toArray Q (List.range' i r.length) a w
 | [],i,s,s',l,_,h,_,ρ,a,w,hM,hQ=>by
  simp [aaB]at h;obtain⟨rfl,rfl⟩:=h
  simp only [List.length_nil,List.range'_zero,wpOps]
  exact hQ ρ a w (Ext.refl _ _ _) hM
 |o::r,i,s,s',l,hr,h,dq,ρ,a,w,hM,hQ=>by
  simp only [aaB]at h
  split at h
  ·cases h
  ·rename_i d hd
   split at h
   ·rename_i s'' l' hl
    cases h
    have hi:ops[i]? =some o:=by have:=hr 0;simpa using this.symm
    rw [w9,List.range'_succ,wpOps_cons]
    refine ahi hM hi hd (fun b hb=>dq b (by simp only [Zs,w7];exact .inl hb)) fun ρ' a' w' Cr hM'=> ?_
    exact acC r (i + 1) _ _ _ (fun j=>by have:=hr (j + 1);simpa [Nat.add_assoc,Nat.add_comm 1 j] using this) hl (fun b hb=>dq b (by simp only [Zs,w7];exact .inr hb)) ρ' a' w' hM' fun ρ'' a'' w'' hag' hM''=>hQ ρ'' a'' w'' (Cr.trans hag' fun id jy=>XZ jy) hM''
   ·cases h
def mG(D:Nat→Bool):Nat→List Inf→St→St
 |_,[],s=>s
 |i,x::r,s=>mG D (i + 1) r (bif D i then s.apply x.d else s)
theorem aa0{k:Nat}{l:List Nat}(h:adA (some k) l=false):k∉l:=by
 simp only [adA]at h
 intro hk
 induction l with
 |nil=>simp at hk
 |cons x r ih=>
  simp only [memN]at h
  cases hb:Nat.beq x k with
  |true=>simp [hb]at h
  |false=>
   simp [hb]at h
   rcases List.mem_cons.1 hk with rfl | hk
   ·simp at hb
   ·exact ih h hk
theorem Pq{k:Nat}{l:List Nat}(h:memN l k=false):k∉l:=aa0 (k:=k) (l:=l) h
theorem Li{k:Nat}{l:List Nat}(h:k∈l):memN l k=true:=by
 cases hm:memN l k with
 |true=>rfl
 |false=>exact absurd h (Pq hm)
theorem aaT{x l:List Nat}(h:meets x l=false): ∀ k∈x,k∉l:=by
 induction x with
 |nil=>simp
 |cons y r ih=>
  simp only [meets]at h
  cases hm:memN l y with
  |true=>simp [hm]at h
  |false=>
   simp [hm]at h
   intro k hk
   rcases List.mem_cons.1 hk with rfl | hk
   ·exact Pq hm
   ·exact ih h k hk
theorem look?_none{α:Type}{es:List (Nat×α)}{k:Nat}(h:k∉es.map (·.1)):look? es k=none:=by
 induction es with
 |nil=>rfl
 |cons p r ih=>
  simp only [w8,List.mem_cons,not_or]at h
  simp only [look?]
  have:Nat.beq p.1 k=false:=by
   cases hb:Nat.beq p.1 k with
   |false=>rfl
   |true=>exact absurd (q8 hb).symm h.1
  simp [this,ih h.2]
theorem look?_mem{α:Type}{es:List (Nat×α)}{k:Nat}{e:α}(h:look? es k=some e):k∈es.map (·.1):=by
 by_cases hk:k∈es.map (·.1)
 ·exact hk
 ·rw [look?_none hk]at h;cases h
theorem afN{x y:Inf}(hx: ∀ k∈Qi x.d,k∈x.d.ids)(h:Pg x y=false)(s:St):(s.apply x.d).apply y.d=(s.apply y.d).apply x.d:=by
 simp only [Pg,Bool.or_eq_false_iff]at h
 have h3:=h.1.1.2
 have h5:=h.2
 clear h
 have hw: ∀ k∈Qi y.d,k∉Qi x.d:=fun k hk hk'=>aaT h5 k hk (hx k hk')
 obtain⟨⟨xd,xv,xe,xn,xi,xb⟩,xr⟩:=x
 obtain⟨⟨yd,yv,ye,yn,yi,yb⟩,yr⟩:=y
 simp only at h3
 simp only [St.apply]
 congr 1
 ·cases xd with
  |none=>rfl
  |some a=>cases yd with
   |none=>rfl
   |some b=>
  funext i
  simp only [acs]at h3
  dsimp only
  cases h1:Nat.beq i a <;> cases h2:Nat.beq i b <;> try rfl
  rw [← q8 h1,← q8 h2]at h3
  simp at h3
 ·funext i
  simp only [aZ]
  cases h1:look? xe i with
  |none=>cases look? ye i <;> rfl
  |some e=>
   cases h2:look? ye i with
   |none=>rfl
   |some e'=>
    refine absurd ?_ (hw i ?_)
    ·simp only [Qi,w7];exact .inl (look?_mem h1)
    ·simp only [Qi,w7];exact .inl (look?_mem h2)
 ·funext i
  simp only [bk]
  cases memN xn i <;> cases memN yn i <;> rfl
 ·cases xd with
  |none=>rfl
  |some a=>cases yd with
   |none=>rfl
   |some b=>
  funext i
  dsimp only
  cases Nat.beq i a <;> cases Nat.beq i b <;> rfl
theorem UY{D:Nat→Bool}{x:Inf}(hx: ∀ k∈Qi x.d,k∈x.d.ids): ∀ (l:List Inf) (k:Nat) (s:St),(∀ j y,l[j]? =some y→D (k + j)=true→Pg x y=false)→mG D k l (s.apply x.d)=(mG D k l s).apply x.d
 | [],_,_,_=>rfl
 |y::r,k,s,h=>by
  simp only [mG]
  have h': ∀ j z,r[j]? =some z→D (k + 1 + j)=true→Pg x z=false:=fun j z hz hD=>h (j + 1) z (by simpa using hz) (by rw [show k + (j + 1)=k + 1 + j by omega];exact hD)
  cases hD:D k with
  |false=>simp only [cond_false];exact UY hx r (k + 1) s h'
  |true=>
   simp only [cond_true]
   rw [afN hx (h 0 y (by simp) (by simpa using hD)),UY hx r (k + 1) _ h']
def XY(D:Nat→Bool)(i:Nat):Nat→Bool:=fun j=>bif Nat.beq j i then true else D j
theorem OM{D D':Nat→Bool}: ∀ (l:List Inf) (k:Nat) (s:St),(∀ j,j < l.length→D (k + j)=D' (k + j))→mG D k l s=mG D' k l s
 | [],_,_,_=>rfl
 |y::r,k,s,h=>by
  simp only [mG]
  rw [show D k=D' k by simpa using h 0 (by simp)]
  exact OM r (k + 1) _ fun j hj=>by have:=h (j + 1) (by simp;omega);rwa [show k + (j + 1)=k + 1 + j by omega]at this
theorem abM{D:Nat→Bool}{x:Inf}{i:Nat}(hx: ∀ k∈Qi x.d,k∈x.d.ids)(hDi:D i=false): ∀ (l:List Inf) (k:Nat) (s:St),k≤i→l[i - k]? =some x→
  (∀ j y,l[j]? =some y→i < k + j→D (k + j)=true→Pg x y=false)→mG (XY D i) k l s=(mG D k l s).apply x.d
 | [],_,_,_,h,_=>by simp at h
 |y::r,k,s,hk,hl,h=>by
  simp only [mG]
  by_cases hki:k=i
  ·subst hki
   simp at hl;subst hl
   have h1:XY D k k=true:=by simp [XY]
   simp only [h1,hDi,cond_true,cond_false]
   rw [OM (D':=D) r (k + 1) _ fun j _=>by
    have:Nat.beq (k + 1 + j) k=false:=by
     cases hb:Nat.beq (k + 1 + j) k with
     |false=>rfl
     |true=>have:=q8 hb;omega
    simp [XY,this]]
   exact UY hx r (k + 1) s fun j z hz hD=>h (j + 1) z (by simpa using hz) (by omega) (by rw [show k + (j + 1)=k + 1 + j by omega];exact hD)
  ·have h1:XY D i k=D k:=by
    have:Nat.beq k i=false:=by
     cases hb:Nat.beq k i with
     |false=>rfl
     |true=>exact absurd (q8 hb) hki
    simp [XY,this]
   rw [h1]
   refine abM hx hDi r (k + 1) _ (by omega) ?_ fun j z hz Yk hD=>h (j + 1) z (by simpa using hz) (by omega) (by rw [show k + (j + 1)=k + 1 + j by omega];exact hD)
   rw [show i - k=(i - (k + 1)) + 1 by omega]at hl
   simpa using hl
theorem SP{D D':Nat→Bool}{t:Nat}: ∀ (l:List Inf) (k:Nat) (s s':St),s.look t=s'.look t→s.wr t=s'.wr t→(∀ j y,l[j]? =some y→y.d.dst=some t→D (k + j)=D' (k + j))→
  (mG D k l s).look t=(mG D' k l s').look t∧(mG D k l s).wr t=(mG D' k l s').wr t
 | [],_,_,_,h,h',_=>⟨h,h'⟩
 |y::r,k,s,s',h,h',hw=>by
  simp only [mG]
  have key: ∀ (b:Bool) (s:St),y.d.dst≠some t→(bif b then s.apply y.d else s).look t=s.look t∧(bif b then s.apply y.d else s).wr t=s.wr t:=by
   intro b s Oc
   cases b with
   |false=>exact⟨rfl,rfl⟩
   |true=>
    simp only [cond_true,St.apply]
    cases hd:y.d.dst with
    |none=>exact⟨rfl,rfl⟩
    |some q=>
     have:Nat.beq t q=false:=by
      cases hb:Nat.beq t q with
      |false=>rfl
      |true=>rw [← q8 hb]at hd;exact absurd hd Oc
     simp [this]
  refine SP r (k + 1) _ _ ?_ ?_ fun j z hz hd=> ?_
  ·by_cases hd:y.d.dst=some t
   ·rw [show D k=D' k by simpa using hw 0 y (by simp) hd]
    cases D' k with
    |false=>exact h
    |true=>simp [St.apply,hd]
   ·rw [(key _ s hd).1,(key _ s' hd).1];exact h
  ·by_cases hd:y.d.dst=some t
   ·rw [show D k=D' k by simpa using hw 0 y (by simp) hd]
    cases D' k with
    |false=>exact h'
    |true=>simp [St.apply,hd]
   ·rw [(key _ s hd).2,(key _ s' hd).2];exact h'
  ·have:=hw (j + 1) z (by simpa using hz) hd
   rwa [show k + (j + 1)=k + 1 + j by omega]at this
theorem Le{D D':Nat→Bool}{t:Nat}: ∀ (l:List Inf) (k:Nat) (s s':St),s.ent t=s'.ent t→s.used t=s'.used t→(∀ j y,l[j]? =some y→t∈Qi y.d→D (k + j)=D' (k + j))→
  (mG D k l s).ent t=(mG D' k l s').ent t∧(mG D k l s).used t=(mG D' k l s').used t
 | [],_,_,_,h,h',_=>⟨h,h'⟩
 |y::r,k,s,s',h,h',hw=>by
  simp only [mG]
  have key: ∀ (b:Bool) (s:St),t∉Qi y.d→(bif b then s.apply y.d else s).ent t=s.ent t∧(bif b then s.apply y.d else s).used t=s.used t:=by
   intro b s Oc
   cases b with
   |false=>exact⟨rfl,rfl⟩
   |true=>
    simp only [cond_true,St.apply]
    simp only [Qi,w7,not_or]at Oc
    refine⟨by simp only [aZ,look?_none Oc.1],?_⟩
    have:memN y.d.new t=false:=by
     cases hb:memN y.d.new t with
     |false=>rfl
     |true=>exact absurd (memN_mem hb) Oc.2
    simp [bk,this]
  refine Le r (k + 1) _ _ ?_ ?_ fun j z hz hd=> ?_
  ·by_cases hd:t∈Qi y.d
   ·rw [show D k=D' k by simpa using hw 0 y (by simp) hd]
    cases D' k with
    |false=>exact h
    |true=>
     simp only [cond_true,St.apply,aZ]
     cases look? y.d.es t <;> simp [h]
   ·rw [(key _ s hd).1,(key _ s' hd).1];exact h
  ·by_cases hd:t∈Qi y.d
   ·rw [show D k=D' k by simpa using hw 0 y (by simp) hd]
    cases D' k with
    |false=>exact h'
    |true=>simp [St.apply,bk,h']
   ·rw [(key _ s hd).2,(key _ s' hd).2];exact h'
  ·have:=hw (j + 1) z (by simpa using hz) hd
   rwa [show k + (j + 1)=k + 1 + j by omega]at this
 where memN_mem {k:Nat}: ∀ {l:List Nat},memN l k=true→k∈l
 | [],h=>by simp [memN]at h
 |x::r,h=>by
  simp only [memN]at h
  cases hb:Nat.beq x k with
  |true=>rw [q8 hb];simp
  |false=>simp [hb]at h;exact List.mem_cons_of_mem _ (memN_mem h)
theorem UX{D:Nat→Bool}: ∀ (l:List Inf) (k:Nat) (s:St),(mG D k l s).next=s.next
 | [],_,_=>rfl
 |y::r,k,s=>by
  simp only [mG]
  rw [UX r]
  cases D k <;> rfl
end
end Go.SX
namespace Go.SX
open Go.RowKit
section
variable{P:Program}{tbl:List (PF P)}{s s':St}{i nid:Nat}{W:Nat→Bool}{A:List (Nat×Bool)}{ops:List Oper}{o:Oper}{d:Dl}{r:Raw}
theorem aip{look look':Nat→Option SS}{x:Operand}(h: ∀ t,x= .tmp t→look' t=look t):ev look' A x=ev look A x:=by
 cases x with
 |tmp t=>simp only [ev,h t rfl]
 |_=>rfl
theorem adb: ∀ (f:Nat) (g:Option (Nat×Bool)),(∀ q∈asm s f g,s'.look q.1=s.look q.1)→asm s' f g=asm s f g
 |0,none,_=>rfl
 |_ + 1,none,_=>rfl
 |0,some p,_=>rfl
 |f + 1,some p,h=>by
  simp only [asm]at h ⊢
  rw [h p (by simp)]
  rw [adb f _ fun q hq=>h q (List.mem_cons_of_mem _ hq)]
theorem aaM: ∀ (f:Nat) (g:Option (Nat×Bool)),(∀ q∈asm s f g,s'.look q.1=s.look q.1)→aaL s' f g=aaL s f g
 |0,none,_=>rfl
 |_ + 1,none,_=>rfl
 |0,some p,_=>rfl
 |f + 1,some p,h=>by
  simp only [aaL]
  rw [h p (by simp [asm])]
  split
  ·rename_i g c hx
   rw [aaM f g fun q hq=>h q (by simp only [asm,hx];exact List.mem_cons_of_mem _ hq)]
  ·rfl
theorem ab3: ∀ (f:Nat) (g:Option (Nat×Bool)),(∀ q∈asm s f g,s'.look q.1=s.look q.1)→acR s' f g=acR s f g
 |0,none,_=>rfl
 |_ + 1,none,_=>rfl
 |0,some p,_=>rfl
 |f + 1,some p,h=>by
  simp only [acR]
  rw [h p (by simp [asm])]
  split
  ·rename_i g c hx
   rw [ab3 f g fun q hq=>h q (by simp only [asm,hx];exact List.mem_cons_of_mem _ hq)]
  ·rfl
theorem aeo{g:Option (Nat×Bool)}(l:List Bool)(h: ∀ q∈asm s 32 g,s'.look q.1=s.look q.1):Yz s' g l=Yz s g l:=by
 cases l with
 |nil=>rfl
 |cons x r=>
  cases g with
  |none=>rfl
  |some p=>simp only [Yz];rw [aaM 32 (some p) h]
theorem YW{look look':Nat→Option SS}: ∀ (l:List Operand),(∀ t∈Ns l,look' t=look t)→Is look' A l=Is look A l
 | [],_=>rfl
 |x::r,h=>by
  have h1:ev look' A x=ev look A x:=aip fun t ht=>h t (by subst ht;simp [Ns])
  have h2: ∀ t∈Ns r,look' t=look t:=fun t ht=>h t (by cases x <;> simp [Ns,ht])
  simp only [Is,h1,YW r h2]
theorem XC{look look':Nat→Option SS}: ∀ (l:List Nat),(∀ t∈l,look' t=look t)→QQ look' l=QQ look l
 | [],_=>rfl
 |t::r,h=>by
  simp only [QQ,h t (by simp),XC r fun t ht=>h t (by simp [ht])]
theorem YQ: ∀ (l acc:List Nat) (i:Nat),i∈acc→i∈UW acc l
 | [],acc,i,h=>h
 |k::r,acc,i,h=>by
  simp only [UW]
  cases memN acc k with
  |true=>exact YQ r acc i h
  |false=>exact YQ r _ i (by simp [h])
theorem adD{ent:Nat→Option Entry}: ∀ (f:Nat) (l:List Nat) (i:Nat),i∈l→i∈MB ent f l
 |0,_,_,h=>h
 |f + 1,_,i,h=>adD f _ i (YQ _ _ i h)
theorem TP{ent ent':Nat→Option Entry}{l:List Nat}(h: ∀ i∈l,ent' i=ent i):l.map (Vf ent')=l.map (Vf ent):=
 List.map_congr_left fun i hi=>by unfold Vf;rw [h i hi]
theorem aa2{ent ent':Nat→Option Entry}: ∀ (f:Nat) (l:List Nat),(∀ i∈MB ent f l,ent' i=ent i)→MB ent' f l=MB ent f l
 |0,l,_=>rfl
 |f + 1,l,h=>by
  simp only [MB]at h ⊢
  have h1:l.map (Vf ent')=l.map (Vf ent):=TP fun i hi=>h i (adD f _ i (YQ _ _ i hi))
  rw [h1]
  exact aa2 f _ h
theorem afy{look look':Nat→Option SS}{ent ent':Nat→Option Entry}(hl: ∀ t∈Ns (Gi o.op),look' t=look t)(he: ∀ i∈Mu look ent A o,ent' i=ent i):Mu look' ent' A o=Mu look ent A o:=by
 have hd:=YW (A:=A) _ hl
 unfold Mu at he ⊢
 split <;> simp only [hd]
 rename_i c Lq
 rw [Lq]at he
 simp only at he
 split <;> try rfl
 rename_i hb
 exact aa2 4 _ fun i hi=>he i (by
  split
  ·rename_i b hb';exact(hb b hb').elim
  ·rw [Lq]at hi;exact hi)
theorem adF{α:Type}{f f':Nat→Option α}{l:List Nat}(h: ∀ i∈l,f' i=f i):rsF f' l=rsF f l:=by
 funext i
 unfold rsF
 cases hm:memN l i with
 |true=>simp only [cond_true];exact h i (SX.memN_mem.1 hm)
 |false=>rfl
theorem Xs{c:Bool}{ent ent':Nat→Option Entry}: ∀ {es:List (Nat×Entry)},(∀ i∈sG es,ent' i=ent i)→Nt c ent' es=Nt c ent es
 | [],_=>rfl
 |p::r,h=>by
  simp only [Nt,h p.1 (by simp [sG]),Xs (es:=r) fun i hi=>h i (by simp only [sG,w8,List.mem_cons]at hi ⊢;exact .inr hi)]
theorem ab0{g:Option (Nat×Bool)}{ids:List Nat}(h:abZ s o g ids r=some d):(∀ i∈ids,i∈d.ids)∧(∀ i∈sG r.es,i∈d.ids)∧(∀ i∈r.new,i∈d.ids)∧(∀ k∈Qi d,k∈d.ids)∧d.dst=o.dst:=by
 unfold abZ at h
 split at h
 ·cases h
  refine⟨fun i hi=>by simp [hi],fun i hi=>by simp [hi],fun i hi=>by simp [hi],fun k hk=> ?_,rfl⟩
  simp only [Qi,w7]at hk ⊢
  exact .inr hk
 ·split at h
  ·rename_i h1 h2
   cases h
   rw [h1,h2]
   exact⟨fun i hi=>hi,fun i hi=>by simp [sG]at hi,fun i hi=>by simp at hi,fun k hk=>by simp [Qi]at hk,rfl⟩
  ·split at h
   ·split at h
    ·rename_i es' hes'
     split at h
     ·cases h
      obtain⟨k1,_⟩:=look?_guardEs hes'
      refine⟨fun i hi=>by simp [hi],fun i hi=>by simp [hi],fun i hi=>by simp [hi],fun k hk=> ?_,rfl⟩
      simp only [Qi,w7]at hk ⊢
      rw [← k1]
      exact .inr hk
     ·cases h
    ·cases h
   ·cases h
theorem aeh(h:opD P tbl W ops s i o=some d): ∃ g r,aeR ops o=some g∧opR P tbl s.look s.ent (asm s 32 g) ((s.next + i) * 64) o=some r∧abZ s o g (Mu s.look s.ent (asm s 32 g) o) r=some d∧
  (YY W s o.dst&&Te s g)=true∧(r.new.all (fun i=> !s.used i)&&r.v.inUb (memN (ac1 s.look s.ent (Mu s.look s.ent (asm s 32 g) o) o r.new)))=true:=by
 unfold opD at h
 split at h
 ·cases h
 ·rename_i g hg
  cases ii:(YY W s o.dst&&Te s g)with
  |false=>simp [ii]at h
  |true=>
   simp only [ii,cond_true]at h
   split at h
   ·cases h
   ·rename_i r hr
    cases hck:(r.new.all (fun i=> !s.used i)&&r.v.inUb (memN (ac1 s.look s.ent (Mu s.look s.ent (asm s 32 g) o) o r.new)))with
    |false=>simp [hck]at h
    |true=>simp only [hck,cond_true]at h;exact⟨g,r,hg,hr,h,ii,hck⟩
theorem aff(h:opD P tbl W ops s i o=some d): ∀ k∈Qi d,k∈d.ids:=by
 obtain⟨g,r,_,_,hf,_⟩:=aeh h
 exact(ab0 hf).2.2.2.1
theorem ajH(h:opD P tbl W ops s i o=some d):d.dst=o.dst:=by
 obtain⟨g,r,_,_,hf,_⟩:=aeh h
 exact(ab0 hf).2.2.2.2
theorem ahL(h:opD P tbl W ops s i o=some d)(hl: ∀ t∈looks ops s o,s'.look t=s.look t∧s'.wr t=s.wr t)(hd: ∀ t,o.dst=some t→s'.wr t=s.wr t)
  (he: ∀ id∈d.ids,s'.ent id=s.ent id) (hu: ∀ id∈d.ids,s'.used id=s.used id) (hn:s'.next=s.next):opD P tbl W ops s' i o=some d:=by
 obtain⟨g,r,hg,hr,hf,ii,hck⟩:=aeh h
 obtain⟨f1,f2,f3,_,_⟩:=ab0 hf
 have hl1: ∀ t∈Ns (Gi o.op),s'.look t=s.look t:=fun t ht=>(hl t (by simp [looks,ht])).1
 have hl2: ∀ q∈asm s 32 g,s'.look q.1=s.look q.1∧s'.wr q.1=s.wr q.1:=fun q hq=>hl q.1 (by simp only [looks,hg,w7];exact .inr (List.mem_map_of_mem hq))
 have hasm:asm s' 32 g=asm s 32 g:=adb 32 g fun q hq=>(hl2 q hq).1
 have hdst:YY W s' o.dst=YY W s o.dst:=by
  unfold YY
  cases hod:o.dst with
  |none=>rfl
  |some k=>simp only [hd k hod]
 have hgo:Te s' g=Te s g:=by
  cases g with
  |none=>rfl
  |some p=>exact(hl2 p (by simp [asm])).2
 have ht:Mu s'.look s'.ent (asm s 32 g) o=Mu s.look s.ent (asm s 32 g) o:=afy hl1 fun i hi=>he i (f1 i hi)
 have hR:opR P tbl s'.look s'.ent (asm s 32 g) ((s.next + i) * 64) o=some r:=by
  unfold opR at hr ⊢
  rw [ht,adF hl1,adF fun i hi=>he i (f1 i hi)]
  exact hr
 have jM:r.new.all (fun i=> !s'.used i)=r.new.all (fun i=> !s.used i):=by
  rw [Bool.eq_iff_iff];simp only [List.all_eq_true]
  exact⟨fun hh i hi=>by rw [← hu i (f3 i hi)];exact hh i hi,fun hh i hi=>by rw [hu i (f3 i hi)];exact hh i hi⟩
 have hsrc: ∀ new,ac1 s'.look s'.ent (Mu s.look s.ent (asm s 32 g) o) o new=ac1 s.look s.ent (Mu s.look s.ent (asm s 32 g) o) o new:=fun new=>by
  simp only [ac1,XC _ hl1,TP fun i hi=>he i (f1 i hi)]
 have hfin:abZ s' o g (Mu s.look s.ent (asm s 32 g) o) r=abZ s o g (Mu s.look s.ent (asm s 32 g) o) r:=by
  unfold abZ
  cases g with
  |none=>rfl
  |some p=>
   simp only
   rw [aeo r.nd fun q hq=>(hl2 q hq).1,ab3 32 (some p) fun q hq=>(hl2 q hq).1]
   split
   ·rfl
   ·split
    ·rw [Xs fun i hi=>he i (f2 i hi),hsrc]
     rw [show (sG r.es).all (fun i=>(s'.ent i).isSome||memN r.new i)=(sG r.es).all (fun i=>(s.ent i).isSome||memN r.new i) from by
      rw [Bool.eq_iff_iff];simp only [List.all_eq_true]
      exact⟨fun hh i hi=>by rw [← he i (f2 i hi)];exact hh i hi,fun hh i hi=>by rw [he i (f2 i hi)];exact hh i hi⟩]
    ·rfl
 unfold opD
 simp only [hg,hdst,hgo,hasm,hn,ht,hR,ii,hck,jM,hsrc,cond_true,hfin,hf]
end
end Go.SX
namespace Go.SX
open Go.RowKit
section
variable{P:Program}{tbl:List (PF P)}{s s':St}{i:Nat}{W:Nat→Bool}{ops:List Oper}{o:Oper}{d:Dl}{B:Base}{ρ:Nm}{a:Act}{w:World}{Q:Exit→Act→World→Prop}
theorem abC: ∀ (r:List Oper) (k:Nat) (s s':St) (l:List Inf),aaB P tbl W ops s k r=some (s',l)→
  l.length=r.length∧s'=mG (fun _=>true) k l s∧
  ∀ j o,r[j]? =some o→ ∃ x,l[j]? =some x∧opD P tbl W ops (mG (fun m=>Nat.blt m (k + j)) k l s) (k + j) o=some x.d∧x.rs=looks ops (mG (fun m=>Nat.blt m (k + j)) k l s) o
 | [],k,s,s',l,h=>by
  simp [aaB]at h;obtain⟨rfl,rfl⟩:=h
  exact⟨rfl,rfl,fun j o ho=>by simp at ho⟩
 |o::r,k,s,s',l,h=>by
  simp only [aaB]at h
  split at h
  ·cases h
  ·rename_i d hd
   split at h
   ·rename_i s1 l1 h1
    cases h
    obtain⟨e1,e2,e3⟩:=abC r (k + 1) _ _ _ h1
    refine⟨by simp [e1],by simp only [mG,cond_true];exact e2,fun j o' ho'=> ?_⟩
    cases j with
    |zero=>
     simp at ho';subst ho'
     have:mG (fun m=>Nat.blt m (k + 0)) k (⟨d,looks ops s o⟩::l1) s=s:=by
      have h0: ∀ (l:List Inf) (m:Nat) (s:St),k≤m→mG (fun q=>Nat.blt q (k + 0)) m l s=s:=by
       intro l
       induction l with
       |nil=>intros;rfl
       |cons y t ih=>
        intro m s hm
        simp only [mG]
        have hb:Nat.blt m (k + 0)=false:=by
         cases hb:Nat.blt m (k + 0)with
         |false=>rfl
         |true=>have:=z7 hb;omega
        rw [hb];exact ih (m + 1) s (by omega)
      exact h0 _ _ _ (Nat.le_refl _)
     rw [this]
     exact⟨⟨d,looks ops s o⟩,by simp,hd,rfl⟩
    |succ j=>
     obtain⟨x,hx1,hx2,hx3⟩:=e3 j o' (by simpa using ho')
     have hb:Nat.blt k (k + (j + 1))=true:=Nat.ble_eq_true_of_le (by omega)
     refine⟨x,by simpa using hx1,?_⟩
     simp only [mG,hb,cond_true]
     rw [show k + (j + 1)=k + 1 + j by omega]
     exact⟨hx2,hx3⟩
   ·cases h
def Closed(ops:List Oper)(D:Nat→Bool):Prop:= ∀ j o,ops[j]? =some o→D j=true→ ∀ e∈o.after.toList,Region.binds .any e=true→D e.on=true
theorem Zp{D:Nat→Bool}{acc:List Nat}(hacc: ∀ j m i,acc[j]? =some m→m.testBit i=true→D j=true→D i=true):
  ∀ (es:List Edge),(∀ e∈es,Region.binds .any e=true→D e.on=true)→ ∀ i,(Yo acc es).testBit i=true→D i=true
 | [],_,i,h=>by simp [Yo]at h
 |e::r,he,i,h=>by
  simp only [Yo]at h
  have ih:=Zp hacc r (fun e' h'=>he e' (List.mem_cons_of_mem _ h')) i
  cases hb:Region.binds .any e with
  |false=>simp only [hb,cond_false]at h;exact ih h
  |true=>
   simp only [hb,cond_true,Nat.testBit_or,Bool.or_eq_true]at h
   have hon:=he e (by simp) hb
   rcases h with h | h | h
   ·rw [Nat.testBit_two_pow]at h
    have:e.on=i:=by simpa using h
    rw [← this];exact hon
   ·cases ha:acc[e.on]? with
    |none=>simp [ha]at h
    |some m=>simp [ha]at h;exact hacc _ m i ha h hon
   ·exact ih h
theorem aaS{D:Nat→Bool}(hD:Closed ops D): ∀ (r:List Oper) (acc:List Nat),(∀ j,r[j]? =ops[acc.length + j]?)→(∀ j m i,acc[j]? =some m→m.testBit i=true→D j=true→D i=true)→
  ∀ j m i,(ack acc r)[j]? =some m→m.testBit i=true→D j=true→D i=true
 | [],acc,_,hacc,j,m,i,hj,hm,hDj=>hacc j m i (by simpa [ack] using hj) hm hDj
 |o::r,acc,hr,hacc,j,m,i,hj,hm,hDj=>by
  simp only [ack]at hj
  refine aaS hD r (acc++ [Yo acc o.after.toList]) (fun k=> ?_) (fun j' m' i' hj' hm' hDj'=> ?_) j m i hj hm hDj
  ·have:=hr (k + 1)
   simp only [w5,w9,List.length_nil]
   rw [show acc.length + (0 + 1) + k=acc.length + (k + 1) by omega,← this];simp
  ·rw [List.getElem?_append]at hj'
   split at hj'
   ·exact hacc j' m' i' hj' hm' hDj'
   ·rename_i gm
    have h0:=hr 0
    have he:j'=acc.length:=by
     rcases Nat.lt_or_ge (j' - acc.length) 1 with h | h
     ·omega
     ·rw [List.getElem?_eq_none (by simpa using h)]at hj';cases hj'
    subst he
    simp at hj';subst hj'
    simp at h0
    exact Zp hacc _ (fun e he hb=>hD _ o h0.symm hDj' e he hb) i' hm'
theorem Xv{ms:List Nat}{i:Nat}{x:Inf}: ∀ (l:List Inf) (k:Nat),Zh ms i x k l=true→ ∀ j y,l[j]? =some y→Pg x y=true→((ms[k + j]?).getD 0).testBit i=true
 | [],_,_,j,y,hy,_=>by simp at hy
 |z::r,k,h,j,y,hy,hc=>by
  simp only [Zh,w4]at h
  cases j with
  |zero=>simp at hy;subst hy;rw [hc]at h;simpa using h.1
  |succ j=>
   have:=Xv r (k + 1) h.2 j y (by simpa using hy) hc
   rwa [show k + 1 + j=k + (j + 1) by omega]at this
theorem Xu{ms:List Nat}: ∀ (l:List Inf) (k:Nat),Vm ms k l=true→ ∀ i j x y,l[i]? =some x→l[j]? =some y→i < j→Pg x y=true→((ms[k + j]?).getD 0).testBit (k + i)=true
 | [],_,_,i,j,x,y,hx,_,_,_=>by simp at hx
 |z::r,k,h,i,j,x,y,hx,hy,Yk,hc=>by
  simp only [Vm,w4]at h
  cases j with
  |zero=>omega
  |succ j=>
   cases i with
   |zero=>
    simp at hx;subst hx
    have:=Xv r (k + 1) h.1 j y (by simpa using hy) hc
    rwa [show k + 1 + j=k + (j + 1) by omega]at this
   |succ i=>
    have:=Xu r (k + 1) h.2 i j x y (by simpa using hx) (by simpa using hy) (by omega) hc
    rwa [show k + 1 + j=k + (j + 1) by omega,show k + 1 + i=k + (i + 1) by omega]at this
theorem VP(x y:Inf):Pg x y=Pg y x:=by
 have h:acs x.d.dst y.d.dst=acs y.d.dst x.d.dst:=by
  cases x.d.dst with
  |none=>cases y.d.dst <;> rfl
  |some a=>cases y.d.dst with
   |none=>rfl
   |some b=>simp only [acs];rw [Bool.eq_iff_iff,Nat.beq_eq,Nat.beq_eq];exact eq_comm
 simp only [Pg,h]
 cases adA x.d.dst y.rs <;> cases adA y.d.dst x.rs <;> cases acs y.d.dst x.d.dst <;> cases meets (Qi x.d) y.d.ids <;> cases meets (Qi y.d) x.d.ids <;> rfl
theorem abS{x y:Inf}{t:Nat}(hx:x.d.dst=some t)(ht:t∈y.rs):Pg x y=true:=by
 cases h:Pg x y with
 |true=>rfl
 |false=>simp only [Pg,Bool.or_eq_false_iff]at h;rw [hx]at h;exact absurd ht (aa0 h.1.1.1.1)
theorem aa5{x y:Inf}{t:Nat}(hx:x.d.dst=some t)(hy:y.d.dst=some t):Pg x y=true:=by
 simp [Pg,hx,hy,acs]
theorem YV{x y:Inf}{t:Nat}(hx:t∈Qi x.d)(hy:t∈y.d.ids):Pg x y=true:=by
 cases h:Pg x y with
 |true=>rfl
 |false=>simp only [Pg,Bool.or_eq_false_iff]at h;exact absurd hy (aaT h.1.2 t hx)
theorem agt{l:List Inf}(hrun:aaB P tbl W ops s 0 ops=some (s',l))(hind:Vm (ack [] ops) 0 l=true){D:Nat→Bool}(hD:Closed ops D){i:Nat}(ho:ops[i]? =some o)(hDi:D i=false)
  (hr: ∀ e∈o.after.toList,Region.binds .any e=true→D e.on=true):
  ∃ x,l[i]? =some x∧opD P tbl W ops (mG D 0 l s) i o=some x.d∧mG (XY D i) 0 l s=(mG D 0 l s).apply x.d:=by
 obtain⟨jw,_,hat⟩:=abC ops 0 s s' l hrun
 obtain⟨x,hx,HG,hrs⟩:=hat i o ho
 simp only [Nat.zero_add]at HG hrs
 have ord: ∀ p q xp xq,l[p]? =some xp→l[q]? =some xq→p < q→Pg xp xq=true→ ∀ D',Closed ops D'→D' q=true→D' p=true:=by
  intro p q xp xq hp hq hpq hc D' hD' hDq
  have h1:=Xu l 0 hind p q xp xq hp hq hpq hc
  simp only [Nat.zero_add]at h1
  cases hm:(ack [] ops)[q]? with
  |none=>simp [hm]at h1
  |some m=>
   simp [hm]at h1
   exact aaS hD' ops [] (fun j=>by simp) (fun j m i hj=>by simp at hj) q m p hm h1 hDq
 have Rt:Closed ops (XY D i):=by
  intro j o' ho' hj e he hb
  simp only [XY]at hj ⊢
  cases hji:Nat.beq j i with
  |true=>
   have:=q8 hji;subst this
   rw [ho]at ho';cases ho'
   have:=hr e he hb
   cases Nat.beq e.on j <;> simp [this]
  |false=>
   simp [hji]at hj
   have:=hD j o' ho' hj e he hb
   cases Nat.beq e.on i <;> simp [this]
 have hsame: ∀ j y,l[j]? =some y→j≠i→Pg x y=true→D j=Nat.blt j i:=by
  intro j y hy hji hc
  rcases Nat.lt_or_ge j i with gm | hge
  ·have h1:=ord j i y x hy hx gm (by rw [VP];exact hc) (XY D i) Rt (by simp [XY])
   simp only [XY]at h1
   have:Nat.beq j i=false:=by
    cases hb:Nat.beq j i with
    |false=>rfl
    |true=>exact absurd (q8 hb) hji
   simp [this]at h1
   rw [h1];exact(Nat.ble_eq_true_of_le (by omega)).symm
  ·have hgt:i < j:=by omega
   have h1:D j=false:=by
    cases hDj:D j with
    |false=>rfl
    |true=>rw [ord i j x y hx hy hgt hc D hD hDj]at hDi;cases hDi
   rw [h1]
   cases hb:Nat.blt j i with
   |false=>rfl
   |true=>have:=z7 hb;omega
 have hself:D i=Nat.blt i i:=by
  rw [hDi]
  cases hb:Nat.blt i i with
  |false=>rfl
  |true=>have:=z7 hb;omega
 have hagree: ∀ j y,l[j]? =some y→Pg x y=true→D (0 + j)=Nat.blt (0 + j) i:=by
  intro j y hy hc
  rw [Nat.zero_add]
  by_cases hji:j=i
  ·subst hji;exact hself
  ·exact hsame j y hy hji hc
 refine⟨x,hx,?_,?_⟩
 ·have hwx:=aff HG
  refine ahL HG (fun t ht=> ?_) (fun t ht=> ?_) (fun id jy=> ?_) (fun id jy=> ?_) ?_
  ·exact SP l 0 s s rfl rfl fun j y hy hyd=>hagree j y hy (by rw [VP];exact abS hyd (by rw [hrs];exact ht))
  ·have hxd:x.d.dst=some t:=by rw [ajH HG];exact ht
   exact(SP l 0 s s rfl rfl fun j y hy hyd=>hagree j y hy (aa5 hxd hyd)).2
  ·exact(Le l 0 s s rfl rfl fun j y hy hyd=>hagree j y hy (by rw [VP];exact YV hyd jy)).1
  ·exact(Le l 0 s s rfl rfl fun j y hy hyd=>hagree j y hy (by rw [VP];exact YV hyd jy)).2
  ·rw [UX,UX]
 ·have hwx:=aff HG
  refine abM hwx hDi l 0 s (by omega) (by simpa using hx) fun j y hy Yk hDj=> ?_
  rw [Nat.zero_add]at Yk hDj
  cases hc:Pg x y with
  |false=>rfl
  |true=>rw [ord i j x y hx hy Yk hc D hD hDj]at hDi;cases hDi
theorem abY: ∀ (l:List Bool) (i:Nat),l[i]? =some false→((l.set i true).filter (!·)).length + 1=(l.filter (!·)).length
 | [],i,h=>by simp at h
 |b::r,0,h=>by simp at h;subst h;simp
 |b::r,i + 1,h=>by
  have:=abY r i (by simpa using h)
  cases b <;> simp <;> omega
theorem abN: ∀ (r:List Oper) (k:Nat),agT k r=true→ ∀ j o,r[j]? =some o→ ∀ e∈o.after.toList,Region.binds .any e=true→e.on < k + j
 | [],_,_,j,o,ho,_,_,_=>by simp at ho
 |q::r,k,h,j,o,ho,e,he,hb=>by
  simp only [agT,w4]at h
  cases j with
  |zero=>
   simp at ho;subst ho
   have:=List.all_eq_true.1 h.1 e he
   rw [hb]at this
   have h2:Nat.blt e.on k=true:=by simpa only [Bool.not_true,Bool.false_or] using this
   have:=z7 h2
   omega
  |succ j=>
   have:=abN r (k + 1) h.2 j o (by simpa using ho) e he hb
   omega
theorem UZ{D:Nat→Bool}{id:Nat}: ∀ (l:List Inf) (k:Nat) (s:St),s.used id=true→(mG D k l s).used id=true
 | [],_,_,h=>h
 |y::r,k,s,h=>by
  simp only [mG]
  refine UZ r _ _ ?_
  cases D k with
  |false=>exact h
  |true=>exact XZ h
theorem adx{b:Bool}: ∀ {l:List Inf} {j:Nat} {x:Inf},l[j]? =some x→b∈x.d.nd→b∈Zs l
 | [],_,_,h,_=>by simp at h
 |y::r,0,x,h,hb=>by simp at h;subst h;simp only [Zs,w7];exact .inl hb
 |y::r,j + 1,x,h,hb=>by
  simp only [Zs,w7]
  exact .inr (adx (l:=r) (j:=j) (by simpa using h) hb)
theorem agv{l:List Inf}(hrun:aaB P tbl B.W ops s 0 ops=some (s',l))(hind:aeY ops l=true)(dq: ∀ b∈Zs l,b=true)(ρ0:Nm)(hQ: ∀ ρ' a' w',Ext B s.used ρ0 ρ'→Mdl B ρ' s' a' w'→Q .normal a' w'):
  ∀ (fuel:Nat) (listed:Array Bool) (ρ:Nm) (a:Act) (w:World),listed.size=ops.length→(listed.toList.filter (!·)).length≤fuel→Closed ops (fun j=>listed.getD j false)→Ext B s.used ρ0 ρ→Mdl B ρ (mG (fun j=>listed.getD j false) 0 l s) a w→
   wpAny P .any ops.toArray Q fuel listed a w:=by
 simp only [aeY,w4]at hind
 obtain⟨jw,hs',_⟩:=abC ops 0 s s' l hrun
 have hdone: ∀ (listed:Array Bool) (ρ:Nm) (a:Act) (w:World),listed.size=ops.length→(∀ j,j < ops.length→listed.getD j false=true)→Ext B s.used ρ0 ρ→Mdl B ρ (mG (fun j=>listed.getD j false) 0 l s) a w→Q .normal a w:=by
  intro listed ρ a w _ RU Cr hM
  refine hQ ρ a w Cr ?_
  rw [hs']
  rwa [OM l 0 s (D':=fun _=>true) fun j hj=>by simpa using RU j (by omega)]at hM
 have hnil: ∀ (listed:Array Bool),listed.size=ops.length→Region.ready .any ops.toArray listed= []→ ∀ j,j < ops.length→listed.getD j false=true:=by
  intro listed FG hr j
  induction j using Nat.strongRecOn with
  |_ j ih=>
   intro hj
   cases hd:listed.getD j false with
   |true=>rfl
   |false=>
    exfalso
    have Bp:j∈Region.ready .any ops.toArray listed:=by
     refine mem_ready.2 ⟨?_,ops[j],by simp [hj],fun e he hb=> ?_⟩
     ·simp [FG,hj]at hd ⊢;exact hd
     ·have:=abN ops 0 hind.1 j ops[j] (by simp [hj]) e (by simpa using he) hb
      exact ih e.on (by omega) (by omega)
    rw [hr]at Bp;cases Bp
 intro fuel
 induction fuel with
 |zero=>
  intro listed ρ a w FG hc Rt Cr hM
  have RU: ∀ j,j < ops.length→listed.getD j false=true:=by
   intro j hj
   have:listed.toList.filter (!·)= []:=List.length_eq_zero_iff.1 (Nat.le_zero.1 hc)
   rw [List.filter_eq_nil_iff]at this
   have:=this listed[j] (by simp)
   simp at this
   simp [FG,hj,this]
  refine⟨?_,hdone listed ρ a w FG RU Cr hM⟩
  cases hr:Region.ready .any ops.toArray listed with
  |nil=>rfl
  |cons i r=>
   have hi:i∈Region.ready .any ops.toArray listed:=by rw [hr];simp
   obtain⟨OE,o,ho,_⟩:=mem_ready.1 hi
   have gm:i < ops.length:=by simpa using (Array.getElem?_eq_some_iff.1 ho).1
   have:=RU i gm
   simp [FG,gm]at this OE;rw [this]at OE;cases OE
 |succ fuel ih=>
  intro listed ρ a w FG hc Rt Cr hM
  refine⟨fun hr=>hdone listed ρ a w FG (hnil listed FG hr) Cr hM,fun i hi=> ?_⟩
  obtain⟨OE,o,ho,RU⟩:=mem_ready.1 hi
  have ho':ops[i]? =some o:=by simpa using ho
  have gm:i < ops.length:=(z6.1 ho').1
  have hDi:listed.getD i false=false:=by simp [FG,gm]at OE ⊢;exact OE
  obtain⟨x,hx,HG,hadd⟩:=agt hrun hind.2 Rt ho' hDi (fun e he hb=>RU e (by simpa using he) hb)
  have hnx: ∀ b∈x.d.nd,b=true:=fun b hb=>dq b (adx hx hb)
  refine ahi hM ho' HG hnx fun ρ' a' w' hag' hM'=> ?_
  have hD':(fun j=>(listed.setIfInBounds i true).getD j false)=XY (fun j=>listed.getD j false) i:=by
   funext j
   simp only [XY]
   cases hb:Nat.beq j i with
   |true=>have:=q8 hb;subst this;simp [FG,gm]
   |false=>
    have Oc:i≠j:=fun e=>by subst e;simp at hb
    simp [Array.getElem?_setIfInBounds_ne Oc]
  refine ih _ ρ' a' w' (by simpa using FG) ?_ ?_ (Cr.trans hag' fun id jy=>UZ l 0 s jy) ?_
  ·have h1:=abY listed.toList i (by simp [FG,gm]at hDi ⊢;exact hDi)
   simp only [Array.toList_setIfInBounds]
   omega
  ·rw [hD']
   intro j o' hj hDj e he hb
   simp only [XY]at hDj ⊢
   cases hji:Nat.beq j i with
   |true=>
    have:=q8 hji;subst this
    rw [ho']at hj;cases hj
    have:=RU e (by simpa using he) hb
    cases Nat.beq e.on j <;> simp [this]
   |false=>
    simp only [hji,cond_false]at hDj
    have:=Rt j o' hj hDj e he hb
    simp only at this
    cases Nat.beq e.on i <;> simp [this]
  ·rw [hD',hadd];exact hM'
theorem Hp.drawn{ent:Nat→Option Entry}{used:Nat→Bool}(h:Hp B ρ ent used w):Hp B ρ ent used { w with drawn:=w.drawn + 1 } :=by
 refine⟨fun id e he=> ?_,h.hi,⟨h.hf.os,h.hf.tape,h.hf.output,h.hf.size,h.hf.mem,h.hf.dat,h.hf.gl⟩⟩
 obtain⟨h1,h2,h3⟩:=h.he id e he
 exact⟨Entry.holds_keep rfl (fun _ _=>rfl) (fun _ _ h=>h) h2 h3 h1 (fun _ _=>rfl) fun b hb=>(Entry.ob_lt h1 hb).2.2,h2,h3⟩
theorem adI: ∀ (r:List Oper) (i:Nat) {s s':St} {l:List Inf},aaB P tbl W ops s i r=some (s',l)→ ∀ id,s.used id=true→s'.used id=true
 | [],i,s,s',l,h,id,jy=>by simp only [aaB,w3,Prod.mk.injEq]at h;rw [← h.1];exact jy
 |o::r,i,s,s',l,h,id,jy=>by
  simp only [aaB]at h
  split at h
  ·cases h
  ·rename_i d _
   split at h
   ·rename_i s2 l2 h2
    simp only [w3,Prod.mk.injEq]at h
    rw [← h.1]
    exact adI r (i + 1) h2 id (XZ jy)
   ·cases h
theorem aab{id:Nat}{draw:Bool}(aS:P.follows .mixedOrders=true){nd:List Bool}(h:Ph P tbl B.W s ops draw=some (s',nd))(dq: ∀ b∈nd,b=true)(hM:Mdl B ρ s a w)(hQ: ∀ ρ' a' w',Ext B s.used ρ ρ'→Mdl B ρ' s' a' w'→Q .normal a' w'):
  (Code.region id ops.toArray draw).wp P Q a w:=by
 unfold Ph at h
 split at h
 ·rename_i s1 l hl
  cases hb:(!draw||aeY ops l)with
  |false=>simp [hb]at h
  |true=>
   simp only [hb,cond_true,w3,Prod.mk.injEq]at h
   obtain⟨h,h'⟩:=h
   subst h;subst h'
   have hQ': ∀ ρ' a' w',Ext B s.clean.used ρ ρ'→Mdl B ρ' s1 a' w'→Q .normal a' w':=fun ρ' a' w' Cr hM'=>by
    obtain⟨ρ2,x2,h2⟩:=ZW (PF.takes tbl) (ad6 l) (hM'.fin ops.length l)
    exact hQ ρ2 a' w' (Cr.trans x2 fun id jy=>adI ops 0 hl id jy) h2
   cases draw with
   |false=>
    refine wp_region ?_
    have:=acC (Q:=Q) ops 0 _ _ _ (fun j=>by simp) hl dq ρ a w hM.clean hQ'
    simpa [List.range_eq_range'] using this
   |true=>
    simp only [Bool.not_true,Bool.false_or]at hb
    refine wp_region_any aS ?_
    have hM':Mdl B ρ s.clean a { w with drawn:=w.drawn + 1 } :=by
     have:=hM.clean
     exact⟨this.hd,this.hn,this.hs,this.hg,this.hu,this.hp.drawn,this.hl⟩
    refine agv hl hb dq ρ hQ' ops.toArray.size _ ρ a _ (by simp) ?_ ?_ (Ext.refl _ _ _) ?_
    ·refine Nat.le_trans (List.length_filter_le _ _) (by simp)
    ·intro j o hj hD
     simp only [Array.getD_eq_getD_getElem?]at hD
     rw [Array.getElem?_replicate]at hD
     split at hD <;> simp at hD
    ·rw [OM l 0 _ (D':=fun _=>false) fun j hj=>by
      simp only [Array.getD_eq_getD_getElem?]
      rw [Array.getElem?_replicate]
      split <;> rfl]
     have: ∀ (l:List Inf) (k:Nat) (s:St),mG (fun _=>false) k l s=s:=by
      intro l
      induction l with
      |nil=>intros;rfl
      |cons y r ih=>intro k s;exact ih (k + 1) s
     rw [this];exact hM'
 ·cases h
end
end Go.SX
namespace Go.SX
open Go.RowKit
inductive Ex where
 |normal
 |exit (id:Nat)
 |ret
def Ex.out:Ex→Exit
 | .normal=> .normal
 | .exit id=> .exit id
 | .ret=> .ret
inductive R where
 |none
 |done (x:Ex) (s:St)
 |need (nd:List Bool) (r:R)
 |ite (b:Bool) (t e:R)
def R.bind:R→(St→R)→R
 | .none,_=> .none
 | .done .normal s,f=>f s
 | .done x s,_=> .done x s
 | .need nd r,f=> .need nd (r.bind f)
 | .ite b t e,f=> .ite b (t.bind f) (e.bind f)
def Ex.inBlock(id:Nat):Ex→Ex
 | .exit k=>bif Nat.beq k id then .normal else .exit k
 |x=>x
def R.inBlock(id:Nat):R→R
 | .none=> .none
 | .done x s=> .done (x.inBlock id) s
 | .need nd r=> .need nd (r.inBlock id)
 | .ite b t e=> .ite b (t.inBlock id) (e.inBlock id)
def aec(b:Bool):Option SS→Option SS→Option SS
 |some ⟨none,v⟩,some ⟨none,v'⟩=>(Gg b v v').map (⟨none,·⟩)
 |_,_=>none
def acp(b:Bool):Option Entry→Option Entry→Option Entry
 |some e,some e'=>It b e (some e')
 |_,_=>none
def aea:Option SS→Option SS→Option SS
 |some ⟨none,v⟩,some ⟨none,_⟩=>some ⟨none,v⟩
 |_,_=>none
def abw:Option Entry→Option Entry→Option Entry
 |some x,some _=>some x
 |_,_=>none
def St.reset(s:St):St:= { s with log:= [],logE:= [] }
def yU(b:Bool)(s s1 s2:St):St:=
 {look:=fun k=>bif memN s1.log k||memN s2.log k then aec b (s1.look k) (s2.look k)else aea (s1.look k) (s2.look k)
  ent:=fun k=>bif memN s1.logE k||memN s2.logE k then acp b (s1.ent k) (s2.ent k)else abw (s1.ent k) (s2.ent k)
  used:=fun k=>s1.used k||s2.used k
  wr:=fun _=>false
  next:=Nat.max s1.next s2.next
  log:=s1.log++(s2.log++s.log)
  logE:=s1.logE++(s2.logE++s.logE) }
def aaj(b:Bool)(s1 s2:St):Bool:=
 (s1.log++s2.log).all (fun k=>match s1.look k,s2.look k with
  |some ⟨none,v⟩,some ⟨none,v'⟩=>(Gg b v v').isSome
  |_,_=>true)&&
 (s1.logE++s2.logE).all (fun k=>match s1.ent k,s2.ent k with
  |some e,some e'=>(It b e (some e')).isSome
  |_,_=>true)
def R.relog(s:St):R→R
 | .none=> .none
 | .done x s'=> .done x { s' with log:=s'.log++s.log,logE:=s'.logE++s.logE }
 | .need nd r=> .need nd (r.relog s)
 | .ite b t e=> .ite b (t.relog s) (e.relog s)
def agm(b:Bool)(s:St)(t e:R):R:=
 match t,e with
 | .done .normal s1,.done .normal s2=>bif aaj b s1 s2 then .done .normal (yU b s s1 s2)else .ite b (R.relog s (.done .normal s1)) (R.relog s (.done .normal s2))
 |t,e=> .ite b (t.relog s) (e.relog s)
def R.needs:R→List Bool
 | .need nd r=>nd++r.needs
 |_=> []
def R.core:R→R
 | .need _ r=>r.core
 |r=>r
def aeg(nd:List Bool)(r:R):R:=
 match nd with
 | []=>r
 |l=> .need l r
def ahc(b:Bool)(s:St)(t e:R):R:=aeg (t.needs.map (fun n=> !b||n)++e.needs.map (fun n=>b||n)) (agm b s t.core e.core)
def nl:Code→Nat
 | .seq x y=>nl x + nl y
 | .cond _ x y=>nl x + nl y
 | .block _ c=>nl c
 | .scope c=>nl c
 | .loop _=>1
 |_=>0
def aju:Oper→Bool
 |⟨_,.panic _,_,_,_,_⟩=>true
 |_=>false
def VG:Code→Bool
 | .region _ ops _=>ops.toList.any aju
 | .seq x y=>VG x||(match x with | .region .. =>VG y | .skip=>VG y | _=>false)
 | .block _ c=>VG c
 | .scope c=>VG c
 |_=>false
def LB(P:Program)(tbl:List (PF P))(W:Nat→Bool):List (St→R)→Code→St→R
 |_,.skip,s=> .done .normal s
 |_,.region _ ops draw,s=>match Ph P tbl W s ops.toList draw with
  |some (s',nd)=>aeg nd (.done .normal s')
  |none=> .none
 |lf,.seq x y,s=>(LB P tbl W lf x s).bind (LB P tbl W (lf.drop (nl x)) y)
 |lf,.cond c x y,s=>match ev s.look [] c with
  |some (.one ⟨false,[.val (.bool b)]⟩)=>bif VG x then .need [!b] (LB P tbl W (lf.drop (nl x)) y s)else ahc b s (LB P tbl W lf x s.reset) (LB P tbl W (lf.drop (nl x)) y s.reset)
  |_=> .none
 |lf,.block id c,s=>(LB P tbl W lf c s).inBlock id
 |_,.exit id,s=> .done (.exit id) s
 |lf,.scope c,s=>LB P tbl W lf c s
 |_,.label _,s=> .done .normal s
 |_,.ret,s=> .done .ret s
 |lf,.loop _,s=>match lf with
  |F::_=>F s
  | []=> .none
 |_,_,_=> .none
def R.sat(post:Ex→St→Prop):R→Prop
 | .none=>False
 | .done x s=>post x s
 | .need nd r=>(∀ b∈nd,b=true)∧r.sat post
 | .ite b t e=>(b=true→t.sat post)∧(b=false→e.sat post)
def Sat(P:Program)(B:Base)(c:Code)(s:St)(post:Ex→St→Prop):Prop:= ∀ ρ a w,Mdl B ρ s a w→c.wp P (fun e a' w'=> ∃ x s' ρ',e=Ex.out x∧Ext B s.used ρ ρ'∧Mdl B ρ' s' a' w'∧post x s') a w
structure Unch (s s':St):Prop where
 look: ∀ k,k∉s'.log→s'.look k=s.look k∨s'.look k=none
 ent: ∀ k,k∉s'.logE→s'.ent k=s.ent k
 log: ∀ k∈s.log,k∈s'.log
 logE: ∀ k∈s.logE,k∈s'.logE
 used: ∀ k,s.used k=true→s'.used k=true
def R.all(post:Ex→St→Prop):R→Prop
 | .none=>True
 | .done x s=>post x s
 | .need _ r=>r.all post
 | .ite _ t e=>t.all post∧e.all post
structure LoopOk (P:Program) (W:Nat→Bool) (F:St→R) (b:Code):Prop where
 ok: ∀ (B:Base) (s:St) (post:Ex→St→Prop),B.W=W→(F s).sat post→Sat P B (.loop b) s post
 un: ∀ s,(F s).all fun _ s'=>Unch s s'
def LOk(P:Program)(W:Nat→Bool):List (St→R)→Code→Prop
 |lf,.seq x y=>LOk P W lf x∧LOk P W (lf.drop (nl x)) y
 |lf,.cond _ x y=>LOk P W lf x∧LOk P W (lf.drop (nl x)) y
 |lf,.block _ c=>LOk P W lf c
 |lf,.scope c=>LOk P W lf c
 |lf,.loop b=> ∀ F r,lf=F::r→LoopOk P W F b
 |_,_=>True
def Qe:Code→List Code
 | .seq x y=>Qe x++Qe y
 | .cond _ x y=>Qe x++Qe y
 | .block _ c=>Qe c
 | .scope c=>Qe c
 | .loop b=> [b]
 |_=> []
section
variable{P:Program}{tbl:List (PF P)}{s s' s1 s2:St}{W:Nat→Bool}{lf:List (St→R)}{B:Base}{ρ:Nm}{a:Act}{w:World}{post post':Ex→St→Prop}
theorem R.sat_mono(hp: ∀ x s,post x s→post' x s): ∀ {r:R},r.sat post→r.sat post'
 | .none,h=>h
 | .done x s,h=>hp x s h
 | .need _ _,h=>⟨h.1,R.sat_mono hp h.2⟩
 | .ite _ _ _,h=>⟨fun hb=>R.sat_mono hp (h.1 hb),fun hb=>R.sat_mono hp (h.2 hb)⟩
theorem R.all_mono{p q:Ex→St→Prop}(hp: ∀ x s,p x s→q x s): ∀ {r:R},r.all p→r.all q
 | .none,_=>trivial
 | .done x s,h=>hp x s h
 | .need _ r,h=>R.all_mono (r:=r) hp h
 | .ite _ _ _,h=>⟨R.all_mono hp h.1,R.all_mono hp h.2⟩
theorem R.sat_bind{f:St→R}: ∀ {r:R},(r.bind f).sat post→r.sat (fun x s=>match x with | .normal=>(f s).sat post | x=>post x s)
 | .none,h=>h
 | .done .normal _,h=>h
 | .done (.exit _) _,h=>h
 | .done .ret _,h=>h
 | .need _ _,h=>⟨h.1,R.sat_bind h.2⟩
 | .ite _ _ _,h=>⟨fun hb=>R.sat_bind (h.1 hb),fun hb=>R.sat_bind (h.2 hb)⟩
theorem R.sat_inBlock{id:Nat}: ∀ {r:R},(r.inBlock id).sat post→r.sat (fun x s=>post (x.inBlock id) s)
 | .none,h=>h
 | .done _ _,h=>h
 | .need _ _,h=>⟨h.1,R.sat_inBlock h.2⟩
 | .ite _ _ _,h=>⟨fun hb=>R.sat_inBlock (h.1 hb),fun hb=>R.sat_inBlock (h.2 hb)⟩
theorem Nu: ∀ c:Code,(Qe c).length=nl c
 | .seq x y=>by simp [Qe,nl,Nu x,Nu y]
 | .cond _ x y=>by simp [Qe,nl,Nu x,Nu y]
 | .block _ c=>by simp [Qe,nl,Nu c]
 | .scope c=>by simp [Qe,nl,Nu c]
 | .loop _ | .skip | .region .. | .rangeFunc .. | .exit _ | .label _ | .goto _ | .ret | .refuse _=>rfl
theorem LOk.of_tops: ∀ (c:Code) (lf:List (St→R)),(∀ (i:Nat) (F:St→R) (b:Code),lf[i]? =some F→(Qe c)[i]? =some b→LoopOk P W F b)→LOk P W lf c
 | .seq x y,lf,h=>by
  refine⟨LOk.of_tops x lf fun i F b hF hb=>h i F b hF ?_,LOk.of_tops y _ fun i F b hF hb=>h (nl x + i) F b (by simpa using hF) ?_⟩
  ·simp only [Qe];rw [List.getElem?_append_left (z6.1 hb).1];exact hb
  ·simp only [Qe];rw [List.getElem?_append_right (by rw [Nu];omega),Nu];simpa using hb
 | .cond _ x y,lf,h=>by
  refine⟨LOk.of_tops x lf fun i F b hF hb=>h i F b hF ?_,LOk.of_tops y _ fun i F b hF hb=>h (nl x + i) F b (by simpa using hF) ?_⟩
  ·simp only [Qe];rw [List.getElem?_append_left (z6.1 hb).1];exact hb
  ·simp only [Qe];rw [List.getElem?_append_right (by rw [Nu];omega),Nu];simpa using hb
 | .block _ c,lf,h=>LOk.of_tops c lf h
 | .scope c,lf,h=>LOk.of_tops c lf h
 | .loop b,lf,h=>fun F r hl=>h 0 F b (by simp [hl]) rfl
 | .skip,_,_ | .region ..,_,_ | .rangeFunc ..,_,_ | .exit _,_,_ | .label _,_,_ | .goto _,_,_ | .ret,_,_ | .refuse _,_,_=>trivial
theorem LOk.nil(c:Code):LOk P W [] c:=LOk.of_tops c [] fun i F b hF=>by simp at hF
theorem Unch.refl(s:St):Unch s s:=⟨fun _ _=> .inl rfl,fun _ _=>rfl,fun _ h=>h,fun _ h=>h,fun _ h=>h⟩
theorem Unch.trans(h:Unch s s1)(h':Unch s1 s2):Unch s s2:=by
 refine⟨fun k hk=> ?_,fun k hk=> ?_,fun k hk=>h'.log k (h.log k hk),fun k hk=>h'.logE k (h.logE k hk),fun k hk=>h'.used k (h.used k hk)⟩
 ·rcases h'.look k hk with e | e
  ·rw [e];exact h.look k fun hh=>hk (h'.log k hh)
  ·exact .inr e
 ·rw [h'.ent k hk];exact h.ent k fun hh=>hk (h'.logE k hh)
theorem acn{k:Nat}: ∀ {l:List Inf} {j:Nat} {y:Inf},l[j]? =some y→y.d.dst=some k→k∈Yd l
 | [],_,_,h,_=>by simp at h
 |x::r,0,y,h,hk=>by simp at h;subst h;simp [Yd,hk]
 |x::r,j + 1,y,h,hk=>by
  have:=acn (l:=r) (j:=j) (by simpa using h) hk
  simp only [Yd];split <;> simp [this]
theorem aco{k:Nat}: ∀ {l:List Inf} {j:Nat} {y:Inf},l[j]? =some y→k∈Qi y.d→k∈aaI l
 | [],_,_,h,_=>by simp at h
 |x::r,0,y,h,hk=>by simp at h;subst h;simp only [aaI,w7];exact .inl hk
 |x::r,j + 1,y,h,hk=>by
  have:=aco (l:=r) (j:=j) (by simpa using h) hk
  simp only [aaI,w7];exact .inr this
theorem SU{D:Nat→Bool}: ∀ (l:List Inf) (k:Nat) (s:St),(mG D k l s).log=s.log∧(mG D k l s).logE=s.logE
 | [],_,_=>⟨rfl,rfl⟩
 |y::r,k,s=>by
  simp only [mG]
  rw [(SU r _ _).1,(SU r _ _).2]
  cases D k <;> exact⟨rfl,rfl⟩
theorem SR: ∀ (l:List Inf) (k:Nat) (s:St),mG (fun _=>false) k l s=s
 | [],_,_=>rfl
 |_::r,k,s=>SR r (k + 1) s
theorem Ya(s:St)(k:Nat):s.clean.look k=s.look k∨s.clean.look k=none:=by
 simp only [St.clean]
 split
 ·rename_i v h;exact .inl h.symm
 ·exact .inr rfl
theorem aeF(s:St)(id:Nat):Unch s (Yb s id):=by
 unfold Yb
 split
 ·split
  ·rename_i e t xs k hc he _ y ids _
   cases To ids with
   |false=>exact Unch.refl s
   |true=>
    refine⟨fun k hk=> .inl rfl,fun k hk=> ?_,fun k hk=>hk,fun k hk=> ?_,fun k hk=>hk⟩
    ·simp only [cond_true,List.mem_cons,w7,not_or]at hk
     simp only [cond_true,aZ,look?]
     cases hq:Nat.beq id k with
     |true=>exact(hk.1 (q8 hq).symm).elim
     |false=>
      simp only [cond_false]
      cases hl:look? (NE ids) k with
      |none=>rfl
      |some e=>exact(hk.2.1 (look?_gone hl).1).elim
    ·simp only [cond_true,List.mem_cons,w7];exact .inr (.inr hk)
  ·exact Unch.refl s
 ·exact Unch.refl s
theorem afY(s:St)(id:Nat):Unch s (abV s id):=by
 unfold abV
 split
 ·refine⟨fun k hk=> .inl rfl,fun k hk=> ?_,fun k hk=>hk,fun k hk=>List.mem_cons_of_mem _ hk,fun k hk=>hk⟩
  simp only [List.mem_cons,not_or]at hk
  simp only [aZ,look?]
  cases hq:Nat.beq id k with
  |true=>exact(hk.1 (q8 hq).symm).elim
  |false=>rfl
 ·exact Unch.refl s
theorem Ve: ∀ (tk:Bool) (l:List Nat) (s:St),Unch s (adU tk l s)
 |_,[],s=>Unch.refl s
 |true,id::r,s=>(afY s id).trans (Ve true r _)
 |false,id::r,s=>(aeF s id).trans (Ve false r _)
theorem aa6{ops:List Oper}{draw:Bool}{nd:List Bool}(h:Ph P tbl W s ops draw=some (s',nd)):Unch s s':=by
 unfold Ph at h
 split at h
 ·rename_i s1 l hl
  cases hb:(!draw||aeY ops l)with
  |false=>simp [hb]at h
  |true=>
   simp only [hb,cond_true,w3,Prod.mk.injEq]at h
   obtain⟨h,_⟩:=h
   subst h
   obtain⟨_,hs1,_⟩:=abC ops 0 _ _ _ hl
   refine Unch.trans ?_ (Ve _ _ _)
   refine⟨fun k hk=> ?_,fun k hk=> ?_,fun k hk=> ?_,fun k hk=> ?_,fun k hk=> ?_⟩
   ·simp only [St.fin,w7,not_or]at hk
    have h1:=(SP (D:=fun _=>true) (D':=fun _=>false) (t:=k) l 0 s.clean s.clean rfl rfl fun j y hy hyd=>absurd (acn hy hyd) hk.1).1
    rw [SR]at h1
    have h2:(s1.fin ops.length l).look k=s1.clean.look k:=rfl
    rw [h2]
    rcases Ya s1 k with e | e
    ·rw [e,hs1,h1];exact Ya s k
    ·exact .inr e
   ·simp only [St.fin,w7,not_or]at hk
    have h1:=(Le (D:=fun _=>true) (D':=fun _=>false) (t:=k) l 0 s.clean s.clean rfl rfl fun j y hy hyd=>absurd (aco hy hyd) hk.1).1
    rw [SR]at h1
    show s1.ent k=s.ent k
    rw [hs1,h1];rfl
   ·show k∈Yd l++s1.log
    rw [hs1,(SU l 0 _).1];exact w6 _ hk
   ·show k∈aaI l++s1.logE
    rw [hs1,(SU l 0 _).2];exact w6 _ hk
   ·show s1.used k=true
    rw [hs1];exact UZ l 0 _ hk
 ·cases h
theorem aee{b:Bool}(h1:Unch s.reset s1)(h2:Unch s.reset s2):Unch s (yU b s s1 s2):=by
 refine⟨fun k hk=> ?_,fun k hk=> ?_,fun k hk=> ?_,fun k hk=> ?_,fun k hk=>(by have:=h1.used k hk;simp [yU,this])⟩
 ·simp only [yU,w7,not_or]at hk ⊢
  have e1:memN s1.log k=false:=by cases h:memN s1.log k with | false=>rfl | true=>exact absurd (Le.memN_mem h) hk.1
  have e2:memN s2.log k=false:=by cases h:memN s2.log k with | false=>rfl | true=>exact absurd (Le.memN_mem h) hk.2.1
  simp only [e1,e2,Bool.or_self,cond_false]
  unfold aea
  split
  ·rename_i v v' e e'
   rcases h1.look k hk.1 with q | q
   ·exact .inl (by rw [← e,q];rfl)
   ·rw [q]at e;cases e
  ·exact .inr rfl
 ·simp only [yU,w7,not_or]at hk ⊢
  have e1:memN s1.logE k=false:=by cases h:memN s1.logE k with | false=>rfl | true=>exact absurd (Le.memN_mem h) hk.1
  have e2:memN s2.logE k=false:=by cases h:memN s2.logE k with | false=>rfl | true=>exact absurd (Le.memN_mem h) hk.2.1
  simp only [e1,e2,Bool.or_self,cond_false]
  rw [h1.ent k hk.1,h2.ent k hk.2.1]
  show abw (s.ent k) (s.ent k)=s.ent k
  cases s.ent k <;> rfl
 ·exact w6 _ (w6 _ hk)
 ·exact w6 _ (w6 _ hk)
theorem R.all_bind{f:St→R}(hf: ∀ s1,Unch s s1→(f s1).all fun _ s2=>Unch s1 s2): ∀ {r:R},r.all (fun _ s1=>Unch s s1)→(r.bind f).all fun _ s2=>Unch s s2
 | .none,_=>trivial
 | .done .normal s1,h=>by
  have key: ∀ r:R,r.all (fun _ s2=>Unch s1 s2)→r.all (fun _ s2=>Unch s s2):=by
   intro r
   induction r with
   |none=>exact fun _=>trivial
   |done x s2=>exact fun h'=>h.trans h'
   |need nd r ih=>exact ih
   |ite b t e iht ihe=>exact fun h'=>⟨iht h'.1,ihe h'.2⟩
  exact key _ (hf s1 h)
 | .done (.exit _) _,h=>h
 | .done .ret _,h=>h
 | .need _ r,h=>R.all_bind (r:=r) hf h
 | .ite _ _ _,h=>⟨R.all_bind hf h.1,R.all_bind hf h.2⟩
theorem R.all_inBlock{id:Nat}: ∀ {r:R},r.all (fun _ s1=>Unch s s1)→(r.inBlock id).all fun _ s1=>Unch s s1
 | .none,_=>trivial
 | .done _ _,h=>h
 | .need _ r,h=>R.all_inBlock (r:=r) h
 | .ite _ _ _,h=>⟨R.all_inBlock h.1,R.all_inBlock h.2⟩
theorem R.all_relog: ∀ {r:R},r.all (fun _ s1=>Unch s.reset s1)→(r.relog s).all fun _ s1=>Unch s s1
 | .none,_=>trivial
 | .done _ _,h=>⟨fun k hk=>h.look k fun hh=>hk (List.mem_append_left _ hh),fun k hk=>h.ent k fun hh=>hk (List.mem_append_left _ hh),
   fun _ hk=>w6 _ hk,fun _ hk=>w6 _ hk,h.used⟩
 | .need _ r,h=>R.all_relog (r:=r) h
 | .ite _ _ _,h=>⟨R.all_relog h.1,R.all_relog h.2⟩
theorem R.all_core{post:Ex→St→Prop}: ∀ {r:R},r.all post→r.core.all post
 | .none,h=>h
 | .done _ _,h=>h
 | .need _ r,h=>R.all_core (r:=r) h
 | .ite _ _ _,h=>h
theorem R.all_mkNeed{post:Ex→St→Prop}{nd:List Bool}{r:R}(h:r.all post):(aeg nd r).all post:=by
 cases nd <;> exact h
theorem R.sat_mkNeed{nd:List Bool}{r:R}(h:(aeg nd r).sat post):(∀ b∈nd,b=true)∧r.sat post:=by
 cases nd with
 |nil=>exact⟨by simp,h⟩
 |cons x l=>exact h
theorem R.sat_core: ∀ {r:R},(∀ b∈r.needs,b=true)→r.core.sat post→r.sat post
 | .none,_,h=>h
 | .done _ _,_,h=>h
 | .need nd r,hn,h=>⟨fun b hb=>hn b (by simp only [R.needs,w7];exact .inl hb),R.sat_core (r:=r) (fun b hb=>hn b (by simp only [R.needs,w7];exact .inr hb)) h⟩
 | .ite _ _ _,_,h=>h
theorem R.all_mkIte{b:Bool}{t e:R}(ht:t.all fun _ s1=>Unch s.reset s1)(he:e.all fun _ s1=>Unch s.reset s1):(ahc b s t e).all fun _ s1=>Unch s s1:=by
 unfold ahc
 refine R.all_mkNeed ?_
 replace ht:=R.all_core ht
 replace he:=R.all_core he
 generalize t.core=t at *
 generalize e.core=e at *
 unfold agm
 split
 ·rename_i s1 s2
  cases aaj b s1 s2 with
  |true=>exact aee ht he
  |false=>exact⟨R.all_relog (r:= .done .normal s1) ht,R.all_relog (r:= .done .normal s2) he⟩
 ·exact⟨R.all_relog ht,R.all_relog he⟩
theorem Fv: ∀ (lf:List (St→R)) (c:Code) (s:St),LOk P W lf c→(LB P tbl W lf c s).all fun _ s'=>Unch s s'
 |_,.skip,s,_=>Unch.refl s
 |_,.region _ ops draw,s,_=>by
  simp only [LB]
  split
  ·rename_i s' nd h;exact R.all_mkNeed (aa6 h)
  ·trivial
 |lf,.seq x y,s,hl=>R.all_bind (fun s1 _=>Fv _ y s1 hl.2) (Fv lf x s hl.1)
 |lf,.cond c x y,s,hl=>by
  simp only [LB]
  split
  ·cases VG x with
   |true=>exact Fv _ y s hl.2
   |false=>exact R.all_mkIte (Fv lf x s.reset hl.1) (Fv _ y s.reset hl.2)
  ·trivial
 |lf,.block id c,s,hl=>R.all_inBlock (Fv lf c s hl)
 |_,.exit id,s,_=>Unch.refl s
 |lf,.scope c,s,hl=>by simp only [LB];exact Fv lf c s hl
 |_,.label _,s,_=>Unch.refl s
 |_,.ret,s,_=>Unch.refl s
 | [],.loop _,_,_=>trivial
 |F::r,.loop b,s,hl=>(hl F r rfl).un s
 |_,.rangeFunc ..,_,_=>by simp only [LB];trivial
 |_,.goto _,_,_=>by simp only [LB];trivial
 |_,.refuse _,_,_=>by simp only [LB];trivial
theorem aiN{l l':List Nat}{k:Nat}(h:(memN l k||memN l' k)=false):k∉l∧k∉l':=by
 simp only [Bool.or_eq_false_iff]at h
 exact⟨Pq h.1,Pq h.2⟩
theorem Zq{b:Bool}{x y:Option SS}{z:SS}(h:aec b x y=some z): ∃ v v' u,x=some ⟨none,v⟩∧y=some ⟨none,v'⟩∧z=⟨none,u⟩∧Gg b v v'=some u:=by
 unfold aec at h
 split at h
 ·rename_i v v'
  cases hm:Gg b v v' with
  |none=>simp [hm]at h
  |some u=>simp [hm]at h;subst h;exact⟨v,v',u,rfl,rfl,rfl,hm⟩
 ·cases h
theorem aaQ{x y:Option SS}{z:SS}(h:aea x y=some z): ∃ v v',x=some ⟨none,v⟩∧y=some ⟨none,v'⟩∧z=⟨none,v⟩:=by
 unfold aea at h
 split at h
 ·rename_i v v';cases h;exact⟨v,v',rfl,rfl,rfl⟩
 ·cases h
theorem Xy{b:Bool}{x y:Option Entry}{z:Entry}(h:acp b x y=some z): ∃ e e',x=some e∧y=some e'∧It b e (some e')=some z:=by
 unfold acp at h
 split at h
 ·exact⟨_,_,rfl,rfl,h⟩
 ·cases h
theorem Zk{x y:Option Entry}{z:Entry}(h:abw x y=some z):x=some z∧ ∃ z',y=some z':=by
 unfold abw at h
 split at h
 ·rename_i u v;cases h;exact⟨rfl,v,rfl⟩
 ·cases h
theorem Tn{U:Nat→Bool}{c:Bool}{a b v:SV}(hb:b.inU U)(h:Gg c a b=some v):v.inU U:=by
 have hc: ∀ {x y z:Cell},y.inU U→MX c x y=some z→z.inU U:=by
  intro x y z hy h
  unfold MX at h
  split at h
  ·rename_i p q
   cases hm:Ps c p q with
   |none=>simp [hm]at h
   |some u=>simp [hm]at h;subst h;trivial
  ·rename_i i o i' o'
   cases hbq:(Nat.beq i i'&&Nat.beq o o')with
   |false=>simp [hbq]at h
   |true=>
    simp [hbq]at h;subst h
    simp only [w4]at hbq
    rw [q8 hbq.1];exact hy
  ·rename_i i i'
   cases hbq:Nat.beq i i' with
   |false=>simp [hbq]at h
   |true=>
    simp [hbq]at h;subst h
    rw [q8 hbq];exact hy
  ·rename_i f vs f' vs'
   cases hbq:Nat.beq f f' with
   |false=>simp [hbq]at h
   |true=>
    cases hm:Kq c vs vs' with
    |none=>simp [hbq,hm]at h
    |some us=>
     simp [hbq,hm]at h;subst h
     intro id jy
     rw [(LR ⟨fun _=> .slice none 0 0,fun _=>none,fun _=> []⟩ hm).2.2]at jy
     exact hy id jy
  ·cases h
 have Jr: ∀ {as bs vs:List Cell},(∀ x∈bs,x.inU U)→kq c as bs=some vs→ ∀ x∈vs,x.inU U:=by
  intro as
  induction as with
  |nil=>intro bs vs _ h;cases bs <;> simp [kq]at h;subst h;simp
  |cons a as ih=>
   intro bs vs hbs h
   cases bs with
   |nil=>simp [kq]at h
   |cons b bs=>
    simp only [kq]at h
    split at h
    ·rename_i x xs hx hxs
     cases h
     intro y hy
     rcases List.mem_cons.1 hy with rfl | hy
     ·exact hc (hbs _ (by simp)) hx
     ·exact ih (fun z hz=>hbs z (by simp [hz])) hxs y hy
    ·cases h
 have hv: ∀ {x y z:V1},y.inU U→JI c x y=some z→z.inU U:=by
  intro x y z hy h
  unfold JI at h
  split at h
  all_goals first
   |cases h
   |(cases hm:kq c x.cs y.cs with
     |none=>simp [hm]at h
     |some u=>simp [hm]at h;subst h;exact Jr hy hm)
 have hvs: ∀ {as bs vs:List V1},(∀ x∈bs,x.inU U)→uR c as bs=some vs→ ∀ x∈vs,x.inU U:=by
  intro as
  induction as with
  |nil=>intro bs vs _ h;cases bs <;> simp [uR]at h;subst h;simp
  |cons a as ih=>
   intro bs vs hbs h
   cases bs with
   |nil=>simp [uR]at h
   |cons b bs=>
    simp only [uR]at h
    split at h
    ·rename_i x xs hx hxs
     cases h
     intro y hy
     rcases List.mem_cons.1 hy with rfl | hy
     ·exact hv (hbs _ (by simp)) hx
     ·exact ih (fun z hz=>hbs z (by simp [hz])) hxs y hy
    ·cases h
 unfold Gg at h
 split at h
 ·rename_i x y
  cases hm:JI c x y with
  |none=>simp [hm]at h
  |some u=>simp [hm]at h;subst h;exact hv hb hm
 ·rename_i x y
  cases hm:uR c x y with
  |none=>simp [hm]at h
  |some u=>simp [hm]at h;subst h;exact hvs hb hm
 ·cases h
theorem abd{U:Nat→Bool}{c:Bool}{as bs vs:List Cell}(hb: ∀ x∈bs,x.inU U)(hm:kq c as bs=some vs): ∀ x∈vs,x.inU U:=
 Tn (U:=U) (c:=c) (a:= .one ⟨true,as⟩) (b:= .one ⟨true,bs⟩) (v:= .one ⟨true,vs⟩) hb (by simp [Gg,JI,hm])
theorem Xr{used:Nat→Bool}{id:Nat}{e e2 old:Entry}(h:It false e (some old)=some e2)(hh:old.holds B ρ w id)(BV:old.inU used):e2.holds B ρ w id∧e2.ob ρ id=old.ob ρ id∧e2.inU used:=by
 unfold It at h
 split at h
 ·rename_i Lq;cases Lq
 ·rename_i own e0 t xs own' e' t' xs' Lq
  cases Lq
  split at h
  ·rename_i ht
   subst ht
   cases hb:(own==own'&&Nat.beq e0 e')with
   |false=>simp [hb]at h
   |true=>
    simp only [hb,cond_true]at h;cases h
    simp only [w4,beq_iff_eq]at hb
    obtain⟨rfl,h2⟩:=hb
    have:=q8 h2;subst this
    exact⟨hh,rfl,trivial⟩
  ·cases h
 ·rename_i T cs T' cs' Lq
  cases Lq
  cases hb:Nat.beq T T' with
  |false=>simp [hb]at h
  |true=>
   have:=q8 hb;subst this
   simp only [hb,cond_true,q9]at h
   obtain⟨ms,hm,rfl⟩:=h
   obtain⟨b,k1,k2,k3,k4⟩:=hh
   have:=(yZ ρ hm).1
   simp only [cond_false]at this
   exact⟨⟨b,k1,by rw [this];exact k2,k3,k4⟩,rfl,abd BV hm⟩
 ·rename_i Lq;cases Lq
 ·rename_i e0 t xs e' t' xs' Lq
  cases Lq
  split at h
  ·rename_i ht
   subst ht
   cases hb:Nat.beq e0 e' with
   |false=>simp [hb]at h
   |true=>
    simp only [hb,cond_true]at h;cases h
    have:=q8 hb;subst this
    exact⟨hh,rfl,trivial⟩
  ·cases h
 ·rename_i e0 t xs e' t' xs' Lq
  cases Lq
  split at h
  ·rename_i ht
   subst ht
   cases hb:Nat.beq e0 e' with
   |false=>simp [hb]at h
   |true=>
    simp only [hb,cond_true]at h;cases h
    have:=q8 hb;subst this
    exact⟨hh,rfl,trivial⟩
  ·cases h
 ·rename_i Lq;cases Lq;cases h;exact⟨hh,rfl,trivial⟩
 ·rename_i Lq;cases Lq;cases h;exact⟨trivial,rfl,trivial⟩
 ·rename_i Lq;cases Lq
 ·cases h
theorem aed(h2:Mdl B ρ s1 a w):Mdl B ρ (yU true s s1 s2) a w:=by
 have hmono: ∀ id,s1.used id=true→(yU true s s1 s2).used id=true:=fun id h=>by simp [yU,h]
 have look: ∀ k x,(yU true s s1 s2).look k=some x→x.g=none∧a.tmps[k]? =some (x.v.conc ρ)∧x.v.inU s1.used:=by
  intro k x hx
  simp only [yU]at hx
  cases hb:(memN s1.log k||memN s2.log k)with
  |true=>
   simp only [hb,cond_true]at hx
   obtain⟨v,v',u,e1,_,rfl,hm⟩:=Zq hx
   refine⟨rfl,?_,aaW (h2.hu k _ e1) hm⟩
   rw [h2.hs k _ e1]
   simp only [SS.at]
   rw [JC ρ hm];rfl
  |false=>
   simp only [hb,cond_false]at hx
   obtain⟨v,v',e1,_,rfl⟩:=aaQ hx
   exact⟨rfl,by rw [h2.hs k _ e1];rfl,h2.hu k _ e1⟩
 have ent: ∀ k e,(yU true s s1 s2).ent k=some e→(∃ e0,s1.ent k=some e0∧e.ob ρ k=e0.ob ρ k)∧e.holds B ρ w k∧s1.used k=true∧e.inU s1.used:=by
  intro k e he
  simp only [yU]at he
  cases hb:(memN s1.logE k||memN s2.logE k)with
  |true=>
   simp only [hb,cond_true]at he
   obtain⟨e1,e2,h3,_,hm⟩:=Xy he
   obtain⟨q1,q2,q3⟩:=h2.he k _ h3
   obtain⟨g1,g2,g3⟩:=Vi (used:=s1.used) hm q1 q3
   exact⟨⟨_,h3,g2⟩,g1,q2,g3⟩
  |false=>
   simp only [hb,cond_false]at he
   obtain⟨e1,_⟩:=Zk he
   exact⟨⟨_,e1,rfl⟩,h2.he k _ e1⟩
 refine⟨h2.hd,h2.hn,fun k x hx=> ?_,fun k x j b hx hj=> ?_,fun k x hx=>SV.inU_mono hmono (look k x hx).2.2,⟨fun id e he=> ?_,fun id id' e e' b he he' hr hr'=> ?_,h2.hp.hf⟩,h2.hl⟩
 ·obtain⟨g0,h0,_⟩:=look k x hx
  obtain⟨g,v⟩:=x
  simp only at g0;subst g0;exact h0
 ·rw [(look k x hx).1]at hj;cases hj
 ·obtain⟨_,q1,q2,q3⟩:=ent id e he
  exact⟨q1,hmono _ q2,Entry.inU_mono hmono q3⟩
 ·obtain⟨⟨e0,h0,o0⟩,_⟩:=ent id e he
  obtain⟨⟨e1,h1,o1⟩,_⟩:=ent id' e' he'
  rw [o0]at hr;rw [o1]at hr'
  exact h2.hp.hi _ _ _ _ b h0 h1 hr hr'
theorem acV(hu1:Unch s.reset s1)(hu2:Unch s.reset s2)(h2:Mdl B ρ s2 a w):Mdl B ρ (yU false s s1 s2) a w:=by
 have hmono: ∀ id,s2.used id=true→(yU false s s1 s2).used id=true:=fun id h=>by simp [yU,h]
 have look: ∀ k x,(yU false s s1 s2).look k=some x→x.g=none∧a.tmps[k]? =some (x.v.conc ρ)∧x.v.inU s2.used:=by
  intro k x hx
  simp only [yU]at hx
  cases hb:(memN s1.log k||memN s2.log k)with
  |true=>
   simp only [hb,cond_true]at hx
   obtain⟨v,v',u,_,e1,rfl,hm⟩:=Zq hx
   refine⟨rfl,?_,Tn (h2.hu k _ e1) hm⟩
   rw [h2.hs k _ e1]
   simp only [SS.at]
   rw [JC ρ hm];rfl
  |false=>
   simp only [hb,cond_false]at hx
   obtain⟨v,v',e1,e2,rfl⟩:=aaQ hx
   obtain⟨n1,n2⟩:=aiN hb
   have hvv:v=v':=by
    rcases hu1.look k n1 with q | q
    ·rcases hu2.look k n2 with q' | q'
     ·rw [q]at e1;rw [q',e1]at e2;cases e2;rfl
     ·rw [q']at e2;cases e2
    ·rw [q]at e1;cases e1
   subst hvv
   exact⟨rfl,by rw [h2.hs k _ e2];rfl,h2.hu k _ e2⟩
 have ent: ∀ k e,(yU false s s1 s2).ent k=some e→(∃ e0,s2.ent k=some e0∧e.ob ρ k=e0.ob ρ k)∧e.holds B ρ w k∧s2.used k=true∧e.inU s2.used:=by
  intro k e he
  simp only [yU]at he
  cases hb:(memN s1.logE k||memN s2.logE k)with
  |true=>
   simp only [hb,cond_true]at he
   obtain⟨e1,e2,_,h3,hm⟩:=Xy he
   obtain⟨q1,q2,q3⟩:=h2.he k _ h3
   obtain⟨g1,g2,g3⟩:=Xr (used:=s2.used) hm q1 q3
   exact⟨⟨_,h3,g2⟩,g1,q2,g3⟩
  |false=>
   simp only [hb,cond_false]at he
   obtain⟨e1,e2,he2⟩:=Zk he
   obtain⟨n1,n2⟩:=aiN hb
   have:s2.ent k=s1.ent k:=by rw [hu1.ent k n1,hu2.ent k n2]
   rw [e1]at this
   exact⟨⟨_,this,rfl⟩,h2.he k _ this⟩
 refine⟨h2.hd,h2.hn,fun k x hx=> ?_,fun k x j b hx hj=> ?_,fun k x hx=>SV.inU_mono hmono (look k x hx).2.2,⟨fun id e he=> ?_,fun id id' e e' b he he' hr hr'=> ?_,h2.hp.hf⟩,h2.hl⟩
 ·obtain⟨g0,h0,_⟩:=look k x hx
  obtain⟨g,v⟩:=x
  simp only at g0;subst g0;exact h0
 ·rw [(look k x hx).1]at hj;cases hj
 ·obtain⟨_,q1,q2,q3⟩:=ent id e he
  exact⟨q1,hmono _ q2,Entry.inU_mono hmono q3⟩
 ·obtain⟨⟨e0,h0,o0⟩,_⟩:=ent id e he
  obtain⟨⟨e1,h1,o1⟩,_⟩:=ent id' e' he'
  rw [o0]at hr;rw [o1]at hr'
  exact h2.hp.hi _ _ _ _ b h0 h1 hr hr'
theorem Mdl.reset(h:Mdl B ρ s a w):Mdl B ρ s.reset a w:=⟨h.hd,h.hn,h.hs,h.hg,h.hu,h.hp,h.hl⟩
theorem Mdl.relog(h:Mdl B ρ s a w)(l l':List Nat):Mdl B ρ { s with log:=l,logE:=l' } a w:=⟨h.hd,h.hn,h.hs,h.hg,h.hu,h.hp,h.hl⟩
theorem R.sat_relog: ∀ {r:R},(r.relog s).sat post→r.sat (fun x s'=>post x { s' with log:=s'.log++s.log,logE:=s'.logE++s.logE })
 | .none,h=>h
 | .done _ _,h=>h
 | .need _ _,h=>⟨h.1,R.sat_relog h.2⟩
 | .ite _ _ _,h=>⟨fun hb=>R.sat_relog (h.1 hb),fun hb=>R.sat_relog (h.2 hb)⟩
theorem R.sat_and{p q:Ex→St→Prop}: ∀ {r:R},r.sat p→r.all q→r.sat fun x s=>p x s∧q x s
 | .none,h,_=>h
 | .done _ _,h,h'=>⟨h,h'⟩
 | .need _ r,h,h'=>⟨h.1,R.sat_and (r:=r) h.2 h'⟩
 | .ite _ _ _,h,h'=>⟨fun hb=>R.sat_and (h.1 hb) h'.1,fun hb=>R.sat_and (h.2 hb) h'.2⟩
theorem aac(lf:List (St→R))(c:Code)(s:St)(hl:LOk P W lf c):(LB P tbl W lf c s).all fun _ s'=> ∀ id,s.used id=true→s'.used id=true:=
 R.all_mono (fun _ _ h=>h.used) (Fv lf c s hl)
theorem wx(aS:P.follows .mixedOrders=true): ∀ (lf:List (St→R)) (c:Code) (s:St) (post:Ex→St→Prop),LOk P B.W lf c→(LB P tbl B.W lf c s).sat post→Sat P B c s post
 |_,.skip,s,post,_,h,ρ,a,w,hM=>wp_skip ⟨.normal,s,ρ,rfl,Ext.refl _ _ _,hM,h⟩
 |_,.region id ops draw,s,post,_,h,ρ,a,w,hM=>by
  simp only [LB]at h
  split at h
  ·rename_i s' nd hs'
   obtain⟨dq,h⟩:=R.sat_mkNeed h
   have:=aab (id:=id) (Q:=fun e a' w'=> ∃ x s' ρ',e=Ex.out x∧Ext B s.used ρ ρ'∧Mdl B ρ' s' a' w'∧post x s') aS hs' dq hM fun ρ' a' w' Cr hM'=>⟨.normal,s',ρ',rfl,Cr,hM',h⟩
   simpa using this
  ·exact h.elim
 |lf,.seq x y,s,post,hl,h,ρ,a,w,hM=>by
  have hx:=R.sat_and (R.sat_bind h) (aac (P:=P) (tbl:=tbl) (W:=B.W) lf x s hl.1)
  refine wp_seq (wp_mono (wx aS lf x s _ hl.1 hx ρ a w hM) fun e a' w' ⟨q,s',ρ',he,Cr,hM',hp,hus⟩=> ?_)
  subst he
  cases q with
  |normal=>
   refine wp_mono (wx aS _ y s' post hl.2 hp ρ' a' w' hM') fun e a'' w'' ⟨q,s'',ρ'',he,hag',hM'',hp'⟩=> ?_
   exact⟨q,s'',ρ'',he,Cr.trans hag' hus,hM'',hp'⟩
  |exit id=>exact⟨.exit id,s',ρ',rfl,Cr,hM',hp⟩
  |ret=>exact⟨.ret,s',ρ',rfl,Cr,hM',hp⟩
 |lf,.cond c x y,s,post,hl,h,ρ,a,w,hM=>by
  simp only [LB]at h
  split at h
  ·rename_i b hb
   have hc:a.eval c= .bool b:=abt hM (fun _ _ h=>h) (by simp) hb
   cases hpn:VG x with
   |true=>
    simp only [hpn,cond_true]at h
    obtain⟨hb0,h⟩:=h
    have hb0:=hb0 (!b) (by simp)
    refine wp_cond hc ?_
    cases b with
    |true=>cases hb0
    |false=>exact wx aS _ y s post hl.2 h ρ a w hM
   |false=>
   simp only [hpn,cond_false]at h
   have hx:=Fv (P:=P) (tbl:=tbl) (W:=B.W) lf x s.reset hl.1
   have hy:=Fv (P:=P) (tbl:=tbl) (W:=B.W) _ y s.reset hl.2
   unfold ahc at h
   obtain⟨dq,h⟩:=R.sat_mkNeed h
   have hn1:b=true→ ∀ n∈(LB P tbl B.W lf x s.reset).needs,n=true:=fun hbt n hn=>by
    have:=dq (!b||n) (by simp only [w7];exact .inl (List.mem_map_of_mem hn))
    simpa [hbt] using this
   have hn2:b=false→ ∀ n∈(LB P tbl B.W (lf.drop (nl x)) y s.reset).needs,n=true:=fun hbt n hn=>by
    have:=dq (b||n) (by simp only [w7];exact .inr (List.mem_map_of_mem hn))
    simpa [hbt] using this
   replace hx:=R.all_core hx
   replace hy:=R.all_core hy
   unfold agm at h
   split at h
   ·rename_i s1 s2 e1 e2
    rw [e1]at hx;rw [e2]at hy
    cases hm:aaj b s1 s2 with
    |true=>
     simp only [hm,cond_true]at h
     refine wp_cond hc ?_
     cases b with
     |true=>
      refine wp_mono (wx aS lf x s.reset (fun q s'=>q= .normal∧s'=s1) hl.1 (R.sat_core (hn1 rfl) (by rw [e1];exact⟨rfl,rfl⟩)) ρ a w hM.reset) fun e a' w' ⟨q,s',ρ',he,Cr,hM',hq,hs'⟩=> ?_
      subst hq;subst hs'
      exact⟨.normal,_,ρ',he,Cr,aed hM',h⟩
     |false=>
      refine wp_mono (wx aS _ y s.reset (fun q s'=>q= .normal∧s'=s2) hl.2 (R.sat_core (hn2 rfl) (by rw [e2];exact⟨rfl,rfl⟩)) ρ a w hM.reset) fun e a' w' ⟨q,s',ρ',he,Cr,hM',hq,hs'⟩=> ?_
      subst hq;subst hs'
      exact⟨.normal,_,ρ',he,Cr,acV hx hy hM',h⟩
    |false=>
     simp only [hm,cond_false]at h
     rw [← e1,← e2]at h
     refine wp_cond hc ?_
     cases b with
     |true=>
      refine wp_mono (wx aS lf x s.reset _ hl.1 (R.sat_core (hn1 rfl) (R.sat_relog (h.1 rfl))) ρ a w hM.reset) fun e a' w' ⟨q,s',ρ',he,Cr,hM',hp⟩=> ?_
      exact⟨q,_,ρ',he,Cr,hM'.relog _ _,hp⟩
     |false=>
      refine wp_mono (wx aS _ y s.reset _ hl.2 (R.sat_core (hn2 rfl) (R.sat_relog (h.2 rfl))) ρ a w hM.reset) fun e a' w' ⟨q,s',ρ',he,Cr,hM',hp⟩=> ?_
      exact⟨q,_,ρ',he,Cr,hM'.relog _ _,hp⟩
   ·refine wp_cond hc ?_
    cases b with
    |true=>
     refine wp_mono (wx aS lf x s.reset _ hl.1 (R.sat_core (hn1 rfl) (R.sat_relog (h.1 rfl))) ρ a w hM.reset) fun e a' w' ⟨q,s',ρ',he,Cr,hM',hp⟩=> ?_
     exact⟨q,_,ρ',he,Cr,hM'.relog _ _,hp⟩
    |false=>
     refine wp_mono (wx aS _ y s.reset _ hl.2 (R.sat_core (hn2 rfl) (R.sat_relog (h.2 rfl))) ρ a w hM.reset) fun e a' w' ⟨q,s',ρ',he,Cr,hM',hp⟩=> ?_
     exact⟨q,_,ρ',he,Cr,hM'.relog _ _,hp⟩
  ·exact h.elim
 |lf,.block id c,s,post,hl,h,ρ,a,w,hM=>by
  refine wp_block (wp_mono (wx aS lf c s _ hl (R.sat_inBlock h) ρ a w hM) fun e a' w' ⟨q,s',ρ',he,Cr,hM',hp⟩=> ?_)
  subst he
  cases q with
  |normal=>exact⟨.normal,s',ρ',rfl,Cr,hM',hp⟩
  |ret=>exact⟨.ret,s',ρ',rfl,Cr,hM',hp⟩
  |exit k=>
   simp only [Ex.out,Exit.inBlock]
   simp only [Ex.inBlock]at hp
   cases hk:Nat.beq k id with
   |true=>
    have:=q8 hk;subst this
    simp only [hk,cond_true]at hp
    simp only [if_true];exact⟨.normal,s',ρ',rfl,Cr,hM',hp⟩
   |false=>
    have Oc:k≠id:=fun e=>by subst e;simp at hk
    simp only [hk,cond_false]at hp
    simp only [Oc,if_false];exact⟨.exit k,s',ρ',rfl,Cr,hM',hp⟩
 |_,.exit id,s,post,_,h,ρ,a,w,hM=>wp_exit ⟨.exit id,s,ρ,rfl,Ext.refl _ _ _,hM,h⟩
 |lf,.scope c,s,post,hl,h,ρ,a,w,hM=>by
  simp only [LB]at h
  refine wp_scope_straight (wp_mono (wx aS lf c s post hl h ρ a w hM) fun e a' w' hh=> ?_)
  obtain⟨q,s',ρ',he,Cr,hM',hp⟩:=hh
  subst he
  cases q <;> exact⟨_,s',ρ',rfl,Cr,hM',hp⟩
 |_,.label _,s,post,_,h,ρ,a,w,hM=>wp_label ⟨.normal,s,ρ,rfl,Ext.refl _ _ _,hM,h⟩
 |_,.ret,s,post,_,h,ρ,a,w,hM=>wp_ret ⟨.ret,s,ρ,rfl,Ext.refl _ _ _,hM,h⟩
 | [],.loop _,s,post,_,h,_,_,_,_=>by simp only [LB]at h;exact h.elim
 |F::r,.loop b,s,post,hl,h,ρ,a,w,hM=>(hl F r rfl).ok B s post rfl (by simpa only [LB] using h) ρ a w hM
 |_,.rangeFunc ..,s,post,_,h,_,_,_,_=>by simp only [LB]at h;exact h.elim
 |_,.goto _,s,post,_,h,_,_,_,_=>by simp only [LB]at h;exact h.elim
 |_,.refuse _,s,post,_,h,_,_,_,_=>by simp only [LB]at h;exact h.elim
end
end Go.SX
namespace Go.SX
open Go.RowKit
def init(args:List SV)(es:List Entry):St:=
 {look:=fun k=>match args[k]? with | some v=>some ⟨none,v⟩ | none=>none
  ent:=fun i=>es[i]?,used:=fun i=>Nat.blt i es.length,wr:=fun _=>false,next:=es.length + 1,log:= [],logE:= [] }
def agx(P:Program)(s:St):List ResultVar→Option (List V1)
 | []=>some []
 | .tmp t::r=>match s.look t with
  |some ⟨none,.one v⟩=>match agx P s r with
   |some l=>some (v::l)
   |none=>none
  |_=>none
 | .cell a T::r=>match s.look a with
  |some ⟨none,.one ⟨false,[.ptr id off]⟩⟩=>match s.ent id with
   |some (.box _ cs)=>match Vn P T off cs,agx P s r with
    |some v,some l=>some (v::l)
    |_,_=>none
   |_=>none
  |_=>none
def ake:List V1→SV
 | [v]=> .one v
 |l=> .tup l
def aa4(P:Program)(fn:Func)(s:St):Option SV:=
 match agx P s fn.results.toList with
 |some l=>some (ake l)
 |none=>none
def eqN:List Nat→List Nat→Bool
 | [],[]=>true
 |a::l,b::r=>Nat.beq a b&&eqN l r
 |_,_=>false
def Xx(s:St)(m:Nat)(v:SV)(L:List Nat):Option Out:=
 match v.ren (PG L),tW (afk s.ent L) L with
 |some u,some es=>bif Vz L&&eqN (L.take m) (aK 0 m)then some ⟨u,es.take m,es.drop m,[]⟩else none
 |_,_=>none
def abx(P:Program)(fn:Func)(m:Nat)(s:St):Option Out:=
 match aa4 P fn s with
 |some v=>Xx s m v (MB s.ent 4 (UW (aK 0 m) v.ids))
 |none=>none
def CG(b:Bool):List Entry→List Entry→Option (List Entry)
 | [],[]=>some []
 |e::r,e'::r'=>match It b e (some e'),CG b r r' with
  |some x,some xs=>some (x::xs)
  |_,_=>none
 |_,_=>none
def NI(b:Bool)(x y:Out):Option Out:=
 match Gg b x.res y.res,CG b x.es y.es,CG b x.new y.new with
 |some v,some es,some nw=>some ⟨v,es,nw,x.nd.map (fun n=> !b||n)++y.nd.map (fun n=>b||n)⟩
 |_,_,_=>none
def ac7(nd:List Bool):Option Out→Option Out
 |some o=>some ⟨o.res,o.es,o.new,nd++o.nd⟩
 |none=>none
def aie(ent:Nat→Option Entry)(used:Nat→Bool)(b k j:Nat):Option ((Nat→Option Entry)×(Nat→Bool)):=
 match ent b with
 |some (.box T cs)=>match cs[k]? with
  |some (.ref i)=>bif used j then none else match ent i with
   |some (.row true e t xs)=>some (aZ (aZ ent [(j,.row true e t xs),(i,.gone)]) [(b,.box T (cs.set k (.ref j)))],bk used [j])
   |some (.row false e t xs)=>some (aZ (aZ ent [(j,.row false e t xs)]) [(b,.box T (cs.set k (.ref j)))],bk used [j])
   |some (.tree e t xs none)=>some (aZ (aZ ent ((j,.tree e t xs none)::NE [i])) [(b,.box T (cs.set k (.ref j)))],bk used [j])
   |_=>none
  |_=>none
 |_=>none
def abT:List (Nat×Nat)→Nat→(Nat→Option Entry)→(Nat→Bool)→Option ((Nat→Option Entry)×(Nat→Bool))
 | [],_,ent,used=>some (ent,used)
 |p::r,j,ent,used=>match aie ent used p.1 p.2 j with
  |some (e,u)=>abT r (j + 1) e u
  |none=>none
def ahm(m b:Nat):Nat→List Cell→List (Nat×Nat)
 |_,[]=> []
 |k,.ref i::r=>bif Nat.blt i m then(b,k)::ahm m b (k + 1) r else ahm m b (k + 1) r
 |k,_::r=>ahm m b (k + 1) r
def agu(ent:Nat→Option Entry)(m:Nat):List Nat→List (Nat×Nat)
 | []=> []
 |b::r=>match ent b with
  |some (.box _ cs)=>ahm m b 0 cs++agu ent m r
  |_=>agu ent m r
def abP:List Cell→List Nat
 | []=> []
 | .ref i::r=>i::abP r
 |_::r=>abP r
def QA(ent:Nat→Option Entry):List Nat→List Nat
 | []=> []
 |b::r=>match ent b with
  |some (.box _ cs)=>abP cs++QA ent r
  |_=>QA ent r
def ajM(es:List Entry):List Nat:=
 (QA (fun i=>es[i]?) (aK 0 es.length)).filter fun i=>match es[i]? with | some (.row true _ _ _)=>true | some (.tree _ _ _ none)=>true | _=>false
def YX(G:List Nat)(ent:Nat→Option Entry):Nat→Option Entry:=fun i=>bif memN G i then(match ent i with | some _=>some .gone | none=>none)else ent i
def ade(m:Nat)(G:List Nat)(fz:Bool)(l:List Nat)(s:St):Option St:=
 match abT (agu s.ent m (aK 0 m)) ((s.next + 9) * 64) (bif fz then aZ s.ent (frz s.ent (QA s.ent (aK 0 m)++l))else s.ent) s.used with
 |some (e,u)=>some { s with ent:=YX G e,used:=u }
 |none=>none
def LP(P:Program)(fn:Func)(m:Nat)(G:List Nat)(fz:Bool)(fr:Nat)(s:St):Option Out:=
 match aa4 P fn s with
 |some v=>bif v.inUb s.used then match ade m G fz (v.ids.take fr) s with
   |some s'=>Xx s' m v (MB s'.ent 4 (UW (aK 0 m) v.ids))
   |none=>none
  else none
 |none=>none
def ajL(ent:Nat→Option Entry)(m:Nat):List Nat:=(aK 0 m).filter fun i=>match ent i with | some (.row true _ _ _)=>true | _=>false
def mkM(i:Nat):Option Value→SV
 |none=> .one ⟨false,[.ref i]⟩
 |some v=> .tup [⟨false,[.ref i]⟩,⟨false,[.val v]⟩]
def slM:SV→Option (Nat×Option Value)
 | .one ⟨false,[.ref i]⟩=>some (i,none)
 | .tup [⟨false,[.ref i]⟩,⟨false,[.val v]⟩]=>some (i,some v)
 |_=>none
def Zl(P:Program)(fn:Func)(m:Nat)(G:List Nat)(s:St):Option Out:=
 match aa4 P fn s with
 |some r=>match slM r with
  |some (i,y)=>bif(mkM i y).inUb s.used then match ade m G false [] s with
   |some s'=>match s'.ent i with
    |some (.row true e t xs)=>bif Nat.blt i m then
      bif s'.used ((s.next + 20) * 64)|| !(aK 0 m).all s'.used then none else
      Xx { s' with ent:=YX (ajL s'.ent m) (aZ s'.ent [((s.next + 20) * 64,.row true e t xs),(i,.gone)]),used:=bk s'.used [(s.next + 20) * 64] } m (mkM ((s.next + 20) * 64) y)
       (MB (YX (ajL s'.ent m) (aZ s'.ent [((s.next + 20) * 64,.row true e t xs),(i,.gone)])) 4 (UW (aK 0 m) [(s.next + 20) * 64]))
     else Xx { s' with ent:=YX (ajL s'.ent m) s'.ent } m (mkM i y) (MB (YX (ajL s'.ent m) s'.ent) 4 (UW (aK 0 m) [i]))
    |_=>none
   |none=>none
  else none
  |none=>none
 |none=>none
def acd(P:Program)(fn:Func)(m:Nat)(G:List Nat)(s:St):Option Out:=
 match aa4 P fn s with
 |some (.one ⟨false,[.ref i]⟩)=>bif(SV.one ⟨false,[.ref i]⟩).inUb s.used then match ade m G true [i] s with
   |some s'=>match s'.ent i with
    |some (.row false e t xs)=>bif Nat.blt i m then
      bif s'.used ((s.next + 20) * 64)|| !(aK 0 m).all s'.used then none else
      Xx { s' with ent:=aZ s'.ent [((s.next + 20) * 64,.row false e t xs)],used:=bk s'.used [(s.next + 20) * 64] } m (.one ⟨false,[.ref ((s.next + 20) * 64)]⟩)
       (MB (aZ s'.ent [((s.next + 20) * 64,.row false e t xs)]) 4 (UW (aK 0 m) [(s.next + 20) * 64]))
     else Xx s' m (.one ⟨false,[.ref i]⟩) (MB s'.ent 4 (UW (aK 0 m) [i]))
    |_=>none
   |none=>none
  else none
 |_=>none
def fnJ(j:Nat):Cell→Cell
 | .val .nilFunc=> .ref j
 |c=>c
def V1.fnJ(j:Nat)(v:V1):V1:=⟨v.agg,v.cs.map (SX.fnJ j)⟩
def SV.fnJ(j:Nat):SV→SV
 | .one v=> .one (v.fnJ j)
 | .tup l=> .tup (l.map (V1.fnJ j))
def acf(P:Program)(fn:Func)(m:Nat)(s:St):Option Out:=
 match aa4 P fn s with
 |some v=>bif s.used ((s.next + 30) * 64)|| !(v.inUb s.used)then none else
   Xx { s with ent:=aZ s.ent [((s.next + 30) * 64,.gone)],used:=bk s.used [(s.next + 30) * 64] } m (v.fnJ ((s.next + 30) * 64))
    (MB (aZ s.ent [((s.next + 30) * 64,.gone)]) 4 (UW (aK 0 m) (v.fnJ ((s.next + 30) * 64)).ids))
 |none=>none
def R.outB(lo:St→Option Out):R→Option Out
 | .none=>Option.none
 | .done .normal s=>lo s
 | .done .ret s=>lo s
 | .done (.exit _) _=>Option.none
 | .need nd r=>ac7 nd (r.outB lo)
 | .ite b t e=>match t.outB lo,e.outB lo with
  |some x,some y=>NI b x y
  |_,_=>Option.none
def R.outL(lo:St→Option Out):R→Option Out
 | .none=>Option.none
 | .done .normal s=>lo s
 | .done .ret s=>lo s
 | .done (.exit _) _=>Option.none
 | .need nd r=>ac7 nd (r.outL lo)
 | .ite b t e=>match t.outL lo,e.outL lo with
  |some x,some y=>match NI b x y with
   |some o=>some o
   |Option.none=>cond b (some x) (some y)
  |x,y=>cond b x y
def reJ(i j:Nat):Cell→Cell
 | .ref k=>bif Nat.beq k i then .ref j else .ref k
 |c=>c
def V1.reJ(i j:Nat)(v:V1):V1:=⟨v.agg,v.cs.map (SX.reJ i j)⟩
def SV.reJ(i j:Nat):SV→SV
 | .one v=> .one (v.reJ i j)
 | .tup l=> .tup (l.map (V1.reJ i j))
def aik:List Nat→Nat→St→SV→Option (St×SV)
 | [],_,s,v=>some (s,v)
 |i::r,j,s,v=>match s.ent i with
  |some (.row false e t xs)=>bif s.used j|| !(v.inUb s.used&&s.used i)then none else
    aik r (j + 1) { s with ent:=aZ s.ent [(j,.row false e t xs)],used:=bk s.used [j] } (v.reJ i j)
  |_=>aik r (j + 1) s v
def ace(P:Program)(fn:Func)(m:Nat)(G:List Nat)(s:St):Option Out:=
 match aa4 P fn s with
 |some v=>match aik (v.ids.filter fun i=>Nat.blt i m) ((s.next + 40) * 64) s v with
  |some (s1,u)=>bif u.inUb s1.used then match ade m G true u.ids s1 with
    |some s'=>Xx s' m u (MB s'.ent 4 (UW (aK 0 m) u.ids))
    |none=>none
   else none
  |none=>none
 |none=>none
def R.outAny(P:Program)(fn:Func)(m:Nat)(G:List Nat)(r:R):Option Out:=
 match r.outB (abx P fn m)with
 |some o=>some o
 |Option.none=>match r.outB (LP P fn m G false 0)with
  |some o=>some o
  |Option.none=>match r.outB (LP P fn m G true 0)with
   |some o=>some o
   |Option.none=>match r.outB (Zl P fn m G)with
    |some o=>some o
    |Option.none=>match r.outB (LP P fn m G true 1000)with
     |some o=>some o
     |Option.none=>match r.outB (acd P fn m G)with
      |some o=>some o
      |Option.none=>match r.outB (ace P fn m G)with
       |some o=>some o
       |Option.none=>r.outB (acf P fn m)
def PF.firsts{P:Program}:List (PF P)→Bool
 |p::_=>Nat.beq p.k 999993
 | []=>false
def PF.first(P:Program):PF P where
 k:=999993
 F:=fun _ _=>none
 ok:=fun _ _ _ h=>by cases h
def PF.pick(P:Program)(n:Nat):PF P where
 k:=999970 + n
 F:=fun _ _=>none
 ok:=fun _ _ _ h=>by cases h
def PF.picks{P:Program}:List (PF P)→Nat
 |p::_=>bif Nat.ble 999970 p.k&&Nat.blt p.k 999980 then p.k - 999969 else 0
 | []=>0
def akd(P:Program)(fn:Func)(m:Nat)(G:List Nat):Nat→St→Option Out
 |0=>abx P fn m
 |1=>LP P fn m G false 0
 |2=>LP P fn m G true 0
 |3=>Zl P fn m G
 |_=>LP P fn m G true 1000
def R.outF(P:Program)(fn:Func)(m:Nat)(G:List Nat)(fs:Bool)(r:R):Option Out:=
 match fs with
 |true=>r.outB (LP P fn m G true 1)
 |false=>r.outAny P fn m G
def R.outP(P:Program)(fn:Func)(m:Nat)(G:List Nat)(fs:Bool)(n:Nat)(r:R):Option Out:=
 match n with
 |0=>r.outF P fn m G fs
 |k + 1=>r.outL (akd P fn m G k)
def agV(P:Program)(tbl:List (PF P))(lf:List (St→R))(fn:Func)(args:List SV)(es:List Entry):Option Out:=
 match fn.body with
 |some c=>bif args.all (SV.inUb fun i=>Nat.blt i es.length)&&Nat.ble args.length fn.ntmps then(LB P tbl (fun k=>Nat.blt k fn.ntmps) lf c (init args es)).outP P fn es.length (ajM es) (PF.firsts tbl) (PF.picks tbl)else none
 |none=>none
section
variable{P:Program}{tbl:List (PF P)}{s:St}{B:Base}{ρ:Nm}{a:Act}{w:World}{fn:Func}
theorem ago(ρ:Nm)(l:List V1):(ake l).conc ρ=(if h:(l.map (V1.conc ρ)).toArray.size=1 then(l.map (V1.conc ρ)).toArray[0]else .tuple (l.map (V1.conc ρ)).toArray):=by
 match l with
 | []=>rfl
 | [v]=>rfl
 |_::_::_=>rfl
def ZC(tmps:Array Value):ResultVar→Sem Value
 | .tmp t=>pure (tmps.getD t undef)
 | .cell p T=>do loadVar T (← asAddr (tmps.getD p undef))
theorem agy(fn:Func)(tmps:Array Value):results fn tmps=(do
  let vs ← fn.results.mapM (ZC tmps)
  pure (if h:vs.size=1 then vs[0]else .tuple vs)):=by
 unfold results ZC
 rfl
theorem acB(hM:Mdl B ρ s a w): ∀ {l:List ResultVar} {vs:List V1},agx P s l=some vs→
  (l.mapM (ZC a.tmps)).run P w= .ok (vs.map (V1.conc ρ)) w
 | [],vs,h=>by simp [agx]at h;subst h;simp
 | .tmp t::r,vs,h=>by
  simp only [agx]at h
  split at h
  ·rename_i v hv
   split at h
   ·rename_i l hl
    cases h
    have hs:=hM.hs _ _ hv
    simp only [SS.at,SV.conc]at hs
    have:=acB hM hl
    simp [List.mapM_cons,ZC,hs,this]
   ·cases h
  ·cases h
 | .cell p T::r,vs,h=>by
  simp only [agx]at h
  split at h
  ·rename_i id off hp
   split at h
   ·rename_i U cs he
    split at h
    ·rename_i v l hv hl
     cases h
     have hs:=hM.hs _ _ hp
     simp only [SS.at,SV.conc,V1.conc,ZB]at hs
     have:=acB hM hl
     obtain⟨b,h1,h2,_⟩:=(hM.he _ _ he).1
     have hr:=VW (P:=P) (ρ:=ρ) (base:=0) (b:=b) (w:=w) hv fun j u hj=>by
      rw [Nat.zero_add,wQ h2];simpa using hj
     rw [Nat.zero_add]at hr
     rw [h1]at hs
     simp only [Mv]at hs
     simp [List.mapM_cons,ZC,hs,asAddr,hr,this]
    ·cases h
   ·cases h
  ·cases h
theorem Lk(hM:Mdl B ρ s a w){v:SV}(h:aa4 P fn s=some v):(results fn a.tmps).run P w= .ok (v.conc ρ) w:=by
 unfold aa4 at h
 split at h
 ·rename_i l hl
  cases h
  have:=acB hM hl
  rw [ago,agy,Array.mapM_eq_mapM_toList]
  simp only [Sem.run_bind,Sem.run_map,this,Result.andThen_ok,Sem.run_pure]
 ·cases h
theorem ajP(hp:Hp B ρ s.ent s.used w){L:List Nat}(hn:L.Nodup){es:List Entry}(hes:tW (afk s.ent L) L=some es):HpL B.w0 B.mem es (subNm ρ L) w:=by
 have jw:=(Fi hes).1
 have hpos: ∀ i j,(fun _:Nat=>true) i=true→PG L i=some j→subNm ρ L j=ρ i:=fun i j _ h=>mF (BA h)
 have hE: ∀ id e,s.ent id=some e→s.ent id=some e:=fun _ _ h=>h
 have hob: ∀ j e' i e,L[j]? =some i→s.ent i=some e→e.ren (PG L)=some e'→ ∀ b,b∈e'.ob (subNm ρ L) j→b∈e.ob ρ i:=by
  intro j e' i e h1 h2 h3 b hb
  cases e with
  |box T cs=>simp only [Entry.ren,q9]at h3;obtain⟨cs',_,rfl⟩:=h3;simp only [Entry.ob,mF h1]at hb ⊢;exact hb
  |row own e t xs=>simp only [Entry.ren,w3]at h3;subst h3;rw [aaz (mF h1)]at hb;exact hb
  |tree e t xs ho=>rw [(Qf (B':=B) (ρ':=subNm ρ L) (id':=j) (U:=fun _=>true) (hp.he _ _ h2).1 h3 (mF h1) (ZN h1) (fun b hb=>(Entry.ob_lt (hp.he _ _ h2).1 hb).2) (Entry.inU_mono (fun _ _=>rfl) (hp.he _ _ h2).2.2) hpos).2]at hb;exact hb
  |wk e t xs=>simp only [Entry.ren,w3]at h3;subst h3;simp only [Entry.ob,mF h1]at hb ⊢;exact hb
  |mp ks=>simp only [Entry.ren,w3]at h3;subst h3;simp only [Entry.ob,mF h1]at hb ⊢;exact hb
  |gone=>simp only [Entry.ren,w3]at h3;subst h3;exact hb
 refine⟨fun j e' he'=> ?_,fun j j' e e' b he he' hb hb'=> ?_,hp.hf.os,hp.hf.tape,hp.hf.output,hp.hf.size,hp.hf.mem,hp.hf.dat,hp.hf.gl⟩
 ·obtain⟨i,e,h1,h2,h3⟩:=NL hE hes he'
  have gm:j < es.length:=(z6.1 he').1
  obtain⟨g1,g2,g3⟩:=hp.he i e h2
  have hU: ∀ i j,PG L i=some j→Nat.blt j es.length=true:=fun i j h=>by
   have:=(z6.1 (BA h)).1
   simp only [Nat.blt,Nat.ble_eq];omega
  refine⟨?_,by simp only [Nat.blt,Nat.ble_eq];omega,?_⟩
  ·cases e with
   |box T cs=>
    simp only [Entry.ren,q9]at h3
    obtain⟨cs',Jr,rfl⟩:=h3
    obtain⟨b,k1,k2,k3,k4⟩:=g1
    refine⟨b,by rw [mF h1];exact k1,?_,k3,k4⟩
    rw [Fj Jr fun x hx y hy=>Cell.ren_conc (U:=fun _=>true) hpos (by cases x <;> simp [Cell.inU]) hy]
    exact k2
   |row own e0 t xs=>
    simp only [Entry.ren,w3]at h3;subst h3
    cases own with
    |false=>simp only [Entry.holds];rw [mF h1];exact g1
    |true=>
     obtain⟨cs,k1,k2,k3⟩:=g1
     simp only [Entry.holds];rw [mF h1]
     exact⟨cs,k1,k2,k3⟩
   |tree e0 t xs ho=>exact(Qf (ρ':=subNm ρ L) (id':=j) (U:=fun _=>true) g1 h3 (mF h1) (ZN h1) (fun b hb=>(Entry.ob_lt g1 hb).2) (Entry.inU_mono (fun _ _=>rfl) g3) hpos).1
   |wk e0 t xs=>
    simp only [Entry.ren,w3]at h3;subst h3
    simp only [Entry.holds];rw [mF h1];exact g1
   |mp ks=>
    simp only [Entry.ren,w3]at h3;subst h3
    simp only [Entry.holds];rw [mF h1];exact g1
   |gone=>simp only [Entry.ren,w3]at h3;subst h3;trivial
  ·cases e with
   |box T cs=>
    simp only [Entry.ren,q9]at h3
    obtain⟨cs',Jr,rfl⟩:=h3
    exact zQ Jr fun x _ y hy=>Cell.ren_inU hU hy
   |row own e0 t xs=>simp only [Entry.ren,w3]at h3;subst h3;trivial
   |tree e0 t xs ho=>exact Tx h3 hU
   |wk e0 t xs=>simp only [Entry.ren,w3]at h3;subst h3;trivial
   |mp ks=>simp only [Entry.ren,w3]at h3;subst h3;trivial
   |gone=>simp only [Entry.ren,w3]at h3;subst h3;trivial
 ·obtain⟨i,e1,h1,h2,h3⟩:=NL hE hes he
  obtain⟨i',e1',h1',h2',h3'⟩:=NL hE hes he'
  have:=hp.hi i i' e1 e1' b h2 h2' (hob j e i e1 h1 h2 h3 b hb) (hob j' e' i' e1' h1' h2' h3' b hb')
  subst this
  exact aam hn h1 h1'
structure OutLe (o o':Out):Prop where
 len:o.es.length=o'.es.length
 hp: ∀ w0 mem ρ w,HpL w0 mem (o'.es++o'.new) ρ w→HpL w0 mem (o.es++o.new) ρ w
 res: ∀ ρ,o.res.conc ρ=o'.res.conc ρ
 inU:o'.res.inU (fun i=>Nat.blt i (o'.es++o'.new).length)→o.res.inU (fun i=>Nat.blt i (o.es++o.new).length)
theorem NH{b:Bool}: ∀ {x y z:List Entry},CG b x y=some z→z.length=x.length∧z.length=y.length∧ ∀ (i:Nat) e,z[i]? =some e→ ∃ e1 e2,x[i]? =some e1∧y[i]? =some e2∧It b e1 (some e2)=some e
 | [],[],z,h=>by simp [CG]at h;subst h;exact⟨rfl,rfl,fun i e he=>by simp at he⟩
 | [],_::_,z,h=>by simp [CG]at h
 |_::_,[],z,h=>by simp [CG]at h
 |p::x,q::y,z,h=>by
  simp only [CG]at h
  split at h
  ·rename_i e es h1 h2
   cases h
   obtain⟨l1,l2,g⟩:=NH h2
   refine⟨by simp [l1],by simp [l2],fun i e' he=> ?_⟩
   cases i with
   |zero=>simp at he;subst he;exact⟨p,q,rfl,rfl,h1⟩
   |succ i=>simp at he;simpa using g i e' he
  ·cases h
theorem Pr{b:Bool}: ∀ {x y z x' y' z':List Entry},CG b x y=some z→CG b x' y'=some z'→CG b (x++x') (y++y')=some (z++z')
 | [],[],z,_,_,_,h,h'=>by simp [CG]at h;subst h;exact h'
 | [],_::_,z,_,_,_,h,_=>by simp [CG]at h
 |_::_,[],z,_,_,_,h,_=>by simp [CG]at h
 |p::x,q::y,z,x',y',z',h,h'=>by
  simp only [CG]at h
  split at h
  ·rename_i e es h1 h2
   cases h
   simp only [List.cons_append,CG,h1,Pr h2 h']
  ·cases h
theorem Xz{x y z:Out}(h:NI true x y=some z):OutLe z x:=by
 unfold NI at h
 split at h
 ·rename_i v es nw h1 h2 h3
  cases h
  have h4:=Pr h2 h3
  obtain⟨l1,_,g⟩:=NH h4
  refine⟨(NH h2).1,fun w0 mem ρ w hp=> ?_,fun ρ=>by rw [JC ρ h1];rfl,fun BV=>by rw [l1];exact aaW BV h1⟩
  unfold HpL
  rw [l1]
  refine hp.swap fun id e he=> ?_
  obtain⟨e1,e2,k1,k2,k3⟩:=g id e he
  obtain⟨q1,q2,q3⟩:=hp.he id e1 k1
  obtain⟨r1,r2,r3⟩:=Vi (used:=fun i=>Nat.blt i (x.es++x.new).length) k3 q1 q3
  exact⟨e1,k1,r1,r2,r3⟩
 ·cases h
theorem Vt{x y z:Out}(h:NI false x y=some z):OutLe z y:=by
 unfold NI at h
 split at h
 ·rename_i v es nw h1 h2 h3
  cases h
  have h4:=Pr h2 h3
  obtain⟨_,l2,g⟩:=NH h4
  refine⟨(NH h2).2.1,fun w0 mem ρ w hp=> ?_,fun ρ=>by rw [JC ρ h1];rfl,fun BV=>by rw [l2];exact Tn BV h1⟩
  unfold HpL
  rw [l2]
  refine hp.swap fun id e he=> ?_
  obtain⟨e1,e2,k1,k2,k3⟩:=g id e he
  obtain⟨q1,q2,q3⟩:=hp.he id e2 k2
  obtain⟨r1,r2,r3⟩:=Xr (used:=fun i=>Nat.blt i (y.es++y.new).length) k3 q1 q3
  exact⟨e2,k2,r1,r2,r3⟩
 ·cases h
theorem OutLe.refl(o:Out):OutLe o o:=⟨rfl,fun _ _ _ _ h=>h,fun _=>rfl,fun h=>h⟩
theorem OutLe.trans{o o' o'':Out}(h:OutLe o o')(h':OutLe o' o''):OutLe o o'':=
 ⟨h.len.trans h'.len,fun w0 mem ρ w hp=>h.hp w0 mem ρ w (h'.hp w0 mem ρ w hp),fun ρ=>(h.res ρ).trans (h'.res ρ),fun BV=>h.inU (h'.inU BV)⟩
theorem abB{lo:St→Option Out}: ∀ {r:R} {o:Out},r.outB lo=some o→(∀ b∈o.nd,b=true)→r.sat fun x s=>(x= .normal∨x= .ret)∧ ∃ o',lo s=some o'∧OutLe o o'
 | .none,_,h,_=>by cases h
 | .done .normal s,o,h,_=>⟨.inl rfl,o,h,OutLe.refl o⟩
 | .done .ret s,o,h,_=>⟨.inr rfl,o,h,OutLe.refl o⟩
 | .done (.exit _) _,_,h,_=>by cases h
 | .need l r,o,h,hn=>by
  simp only [R.outB]at h
  cases ho:r.outB lo with
  |none=>simp [ho,ac7]at h
  |some o1=>
   simp only [ho,ac7,w3]at h
   subst h
   refine⟨fun b hb=>hn b (by simp [hb]),?_⟩
   exact R.sat_mono (fun q s ⟨h1,o',h2,h3⟩=>⟨h1,o',h2,⟨h3.len,h3.hp,h3.res,h3.inU⟩⟩) (abB ho fun b hb=>hn b (by simp [hb]))
 | .ite b t e,o,h,hn=>by
  simp only [R.outB]at h
  split at h
  ·rename_i x y hx hy
   have dq:o.nd=x.nd.map (fun n=> !b||n)++y.nd.map (fun n=>b||n):=by
    unfold NI at h
    split at h
    ·cases h;rfl
    ·cases h
   rw [dq]at hn
   refine⟨fun hb=> ?_,fun hb=> ?_⟩
   ·subst hb
    have hl: ∀ n∈x.nd,n=true:=fun n hn'=>by
     have:=hn (!true||n) (by simp only [w7];exact .inl (List.mem_map_of_mem hn'))
     simpa using this
    exact R.sat_mono (fun q s ⟨h1,o',h2,h3⟩=>⟨h1,o',h2,(Xz h).trans h3⟩) (abB hx hl)
   ·subst hb
    have hl: ∀ n∈y.nd,n=true:=fun n hn'=>by
     have:=hn (false||n) (by simp only [w7];exact .inr (List.mem_map_of_mem hn'))
     simpa using this
    exact R.sat_mono (fun q s ⟨h1,o',h2,h3⟩=>⟨h1,o',h2,(Vt h).trans h3⟩) (abB hy hl)
  ·cases h
theorem Sl{lo:St→Option Out}: ∀ {r:R} {o:Out},r.outL lo=some o→(∀ b∈o.nd,b=true)→r.sat fun x s=>(x= .normal∨x= .ret)∧ ∃ o',lo s=some o'∧OutLe o o'
 | .none,_,h,_=>by cases h
 | .done .normal s,o,h,_=>⟨.inl rfl,o,h,OutLe.refl o⟩
 | .done .ret s,o,h,_=>⟨.inr rfl,o,h,OutLe.refl o⟩
 | .done (.exit _) _,_,h,_=>by cases h
 | .need l r,o,h,hn=>by
  simp only [R.outL]at h
  cases ho:r.outL lo with
  |none=>simp [ho,ac7]at h
  |some o1=>
   simp only [ho,ac7,w3]at h
   subst h
   refine⟨fun b hb=>hn b (by simp [hb]),?_⟩
   exact R.sat_mono (fun q s ⟨h1,o',h2,h3⟩=>⟨h1,o',h2,⟨h3.len,h3.hp,h3.res,h3.inU⟩⟩) (Sl ho fun b hb=>hn b (by simp [hb]))
 | .ite b t e,o,h,hn=>by
  simp only [R.outL]at h
  have hc:cond b (t.outL lo) (e.outL lo)=some o→R.sat (fun x s=>(x= .normal∨x= .ret)∧ ∃ o',lo s=some o'∧OutLe o o') (.ite b t e):=fun h=>by
   refine⟨fun hb=> ?_,fun hb=> ?_⟩
   ·subst hb;exact Sl h hn
   ·subst hb;exact Sl h hn
  split at h
  ·rename_i x y hx hy
   split at h
   ·rename_i o1 h1
    cases h
    have dq:o.nd=x.nd.map (fun n=> !b||n)++y.nd.map (fun n=>b||n):=by
     unfold NI at h1
     split at h1
     ·cases h1;rfl
     ·cases h1
    rw [dq]at hn
    refine⟨fun hb=> ?_,fun hb=> ?_⟩
    ·subst hb
     have hl: ∀ n∈x.nd,n=true:=fun n hn'=>by
      have:=hn (!true||n) (by simp only [w7];exact .inl (List.mem_map_of_mem hn'))
      simpa using this
     exact R.sat_mono (fun q s ⟨h1',o',h2,h3⟩=>⟨h1',o',h2,(Xz h1).trans h3⟩) (Sl hx hl)
    ·subst hb
     have hl: ∀ n∈y.nd,n=true:=fun n hn'=>by
      have:=hn (false||n) (by simp only [w7];exact .inr (List.mem_map_of_mem hn'))
      simpa using this
     exact R.sat_mono (fun q s ⟨h1',o',h2,h3⟩=>⟨h1',o',h2,(Vt h1).trans h3⟩) (Sl hy hl)
   ·exact hc (by rw [hx,hy];exact h)
  ·exact hc h
theorem V1.ren_inU{f:Nat→Option Nat}{U:Nat→Bool}(hf: ∀ i j,f i=some j→U j=true){v u:V1}(h:v.ren f=some u):u.inU U:=by
 simp only [V1.ren,q9]at h
 obtain⟨cs,Jr,rfl⟩:=h
 exact zQ Jr fun x _ y hy=>Cell.ren_inU hf hy
theorem SV.ren_inU{f:Nat→Option Nat}{U:Nat→Bool}(hf: ∀ i j,f i=some j→U j=true){v u:SV}(h:v.ren f=some u):u.inU U:=by
 cases v with
 |one v=>
  simp only [SV.ren,q9]at h
  obtain⟨u',hu,rfl⟩:=h
  exact V1.ren_inU hf hu
 |tup vs=>
  simp only [SV.ren,q9]at h
  obtain⟨us,hu,rfl⟩:=h
  exact zQ hu fun x _ y hy=>V1.ren_inU hf hy
theorem aim: ∀ {l r:List Nat},eqN l r=true→l=r
 | [],[],_=>rfl
 | [],_::_,h=>by simp [eqN]at h
 |_::_,[],h=>by simp [eqN]at h
 |a::l,b::r,h=>by
  simp only [eqN,w4]at h
  rw [q8 h.1,aim h.2]
theorem Ha: ∀ {k n j:Nat},j < k→(aK n k)[j]? =some (n + j)
 |0,_,_,h=>by omega
 |k + 1,n,0,_=>by simp [aK]
 |k + 1,n,j + 1,h=>by
  simp only [aK,List.getElem?_cons_succ];rw [Ha (by omega)];congr 1;omega
theorem Pk: ∀ (k n:Nat),(aK n k).length=k
 |0,_=>rfl
 |k + 1,n=>by simp [aK,Pk k]
def agU(n:Nat)(w:World)(mem:Nat→Option Obj):Base:=⟨n,w,mem,fun _=>none,fun k=>Nat.blt k n,fun _ hk=>⟨z7 hk,rfl⟩⟩
theorem Hp.rebase{B B':Base}{ent:Nat→Option Entry}{used:Nat→Bool}(h:Hp B ρ ent used w)(h0:B'.w0=B.w0)(hm:B'.mem=B.mem):Hp B' ρ ent used w:=by
 refine⟨fun id e he=> ?_,h.hi,by rw [h0];exact h.hf.os,by rw [h0];exact h.hf.tape,by rw [h0];exact h.hf.output,by rw [h0];exact h.hf.size,by rw [hm];exact h.hf.mem,h.hf.dat,h.hf.gl⟩
 obtain⟨h1,h2,h3⟩:=h.he id e he
 refine⟨?_,h2,h3⟩
 cases e with
 |box T cs=>obtain⟨b,k1,k2,k3,k4⟩:=h1;exact⟨b,k1,k2,by rw [hm];exact k3,k4⟩
 |row own e0 t xs=>
  cases own with
  |false=>exact h1
  |true=>obtain⟨cs,k1,k2,k3⟩:=h1;exact⟨cs,k1,k2,fun b hb=>⟨by rw [hm];exact(k3 b hb).1,(k3 b hb).2⟩⟩
 |tree e0 t xs ho=>obtain⟨cs,Ls,k1,k2,k3,k4,k5⟩:=h1;exact⟨cs,Ls,k1,k2,k3,k4,fun b hb=>⟨by rw [hm];exact(k5 b hb).1,(k5 b hb).2⟩⟩
 |wk e0 t xs=>obtain⟨k1,k2,k3⟩:=h1;exact⟨k1,k2,fun b hb=>⟨by rw [hm];exact(k3 b hb).1,(k3 b hb).2⟩⟩
 |mp ks=>obtain⟨b,es,cl,k1,k2,k3,k4,k5⟩:=h1;exact⟨b,es,cl,k1,k2,k3,by rw [hm];exact k4,k5⟩
 |gone=>trivial
theorem Mdl.init{args:List SV}{es:List Entry}{n:Nat}{mem:Nat→Option Obj}(hn:args.length≤n)(BV: ∀ v∈args,v.inU fun i=>Nat.blt i es.length)(hp:HpL w mem es ρ w):
  Mdl (agU n w mem) ρ (SX.init args es) { tmps:=(args.map (SV.conc ρ)).toArray++Array.replicate (n - (args.map (SV.conc ρ)).toArray.size) undef,defers:= [] } w:=by
 have key: ∀ k x,(SX.init args es).look k=some x→ ∃ v,args[k]? =some v∧x=⟨none,v⟩:=by
  intro k x hx
  simp only [SX.init]at hx
  split at hx
  ·rename_i v hv;cases hx;exact⟨v,hv,rfl⟩
  ·cases hx
 refine⟨rfl,by simp [agU];omega,fun k x hx=> ?_,fun k x j b hx hj=> ?_,fun k x hx=> ?_,Hp.rebase (B:=memB w mem) hp rfl rfl,fun k v hv=>(by cases hv)⟩
 ·obtain⟨v,hv,rfl⟩:=key k x hx
  have gm:k < args.length:=(z6.1 hv).1
  simp only [SS.at]
  rw [Array.getElem?_append_left (by simpa using gm)]
  simp [hv]
 ·obtain⟨v,hv,rfl⟩:=key k x hx;cases hj
 ·obtain⟨v,hv,rfl⟩:=key k x hx;exact BV v (List.mem_of_getElem? hv)
def Rl(P:Program)(fn:Func)(m:Nat)(lo:St→Option Out):Prop:=
 ∀ {B:Base} {ρ:Nm} {s:St} {a:Act} {w:World} {o:Out},Mdl B ρ s a w→(∀ i,Nat.blt i m=true→s.used i=true)→lo s=some o→
  ∃ ρ':Nm,Ext B (fun i=>Nat.blt i m) ρ ρ'∧(results fn a.tmps).run P w= .ok (o.res.conc ρ') w∧o.es.length=m∧
   o.res.inU (fun i=>Nat.blt i (o.es++o.new).length)∧HpL B.w0 B.mem (o.es++o.new) ρ' w
theorem NG{m:Nat}{v:SV}{L:List Nat}{o:Out}(hp:Hp B ρ s.ent s.used w)(h:Xx s m v L=some o):
  ∃ ρ':Nm,Ext B (fun i=>Nat.blt i m) ρ ρ'∧o.res.conc ρ'=v.conc ρ∧o.es.length=m∧
   o.res.inU (fun i=>Nat.blt i (o.es++o.new).length)∧HpL B.w0 B.mem (o.es++o.new) ρ' w:=by
 unfold Xx at h
 split at h
 ·rename_i u es' hu hes'
  cases hck2:(Vz L&&eqN (L.take m) (aK 0 m))with
  |false=>simp [hck2]at h
  |true=>
   simp only [hck2,cond_true]at h
   cases h
   simp only [w4]at hck2
   have hpre:=aim hck2.2
   have jL: ∀ i,i < m→L[i]? =some i:=fun i hi=>by
    have:=Ha (n:=0) hi
    rw [← hpre,List.getElem?_take,if_pos hi,Nat.zero_add]at this
    exact this
   have hrel:=ajP hp (VA hck2.1) hes'
   have jw:es'.length=L.length:=(Fi hes').1
   have hLl:m≤L.length:=by
    have:=congrArg List.length hpre
    rw [Pk,List.length_take]at this
    omega
   have hcv:u.conc (subNm ρ L)=v.conc ρ:=SV.ren_conc (U:=fun _=>true) (fun i j _ hj=>mF (BA hj)) (by
    have hc: ∀ c:Cell,c.inU fun _=>true:=fun c=>by cases c <;> simp [Cell.inU]
    cases v with
    |one v=>exact fun c _=>hc c
    |tup vs=>exact fun v _ c _=>hc c) hu
   refine⟨subNm ρ L,⟨fun i hi=> ?_,fun _ _ hb=>hb,fun _ _ hb=> .inl hb⟩,hcv,by simp only [List.length_take];omega,?_,by rw [List.take_append_drop];exact hrel⟩
   ·have hi':i < m:=z7 hi
    rw [mF (jL i hi')]
   ·rw [List.take_append_drop]
    refine SV.ren_inU (fun i j hj=> ?_) hu
    have:=(z6.1 (BA hj)).1
    simp only [Nat.blt,Nat.ble_eq];omega
 ·cases h
theorem acg(m:Nat):Rl P fn m (abx P fn m):=by
 intro B ρ s a w o hM _ h
 unfold abx at h
 split at h
 ·rename_i v hv
  have hr:=Lk hM hv
  obtain⟨ρ',h1,h2,h3,h4,h5⟩:=NG hM.hp h
  exact⟨ρ',h1,by rw [h2];exact hr,h3,h4,h5⟩
 ·cases h
theorem Hp.less{B:Base}{ρ:Nm}{w:World}{ent1 ent2:Nat→Option Entry}{used:Nat→Bool}(h:Hp B ρ ent1 used w)
  (hs: ∀ id e2,ent2 id=some e2→ ∃ e1,ent1 id=some e1∧e2.holds B ρ w id∧(∀ b∈e2.ob ρ id,b∈e1.ob ρ id)∧e2.inU used):Hp B ρ ent2 used w:=by
 refine⟨fun id e he=> ?_,fun id id' e e' b he he' hb hb'=> ?_,h.hf⟩
 ·obtain⟨e1,h1,h2,_,h4⟩:=hs id e he
  exact⟨h2,(h.he id e1 h1).2.1,h4⟩
 ·obtain⟨e1,h1,_,h3,_⟩:=hs id e he
  obtain⟨e1',h1',_,h3',_⟩:=hs id' e' he'
  exact h.hi id id' e1 e1' b h1 h1' (h3 b hb) (h3' b hb')
theorem Hp.reref{ent:Nat→Option Entry}{used:Nat→Bool}(h:Hp B ρ ent used w){b k i j:Nat}{T:TypeId}{cs:List Cell}(hb:ent b=some (.box T cs))(hk:cs[k]? =some (.ref i))(hj:used j=true)(hn:ρ j=ρ i):
  Hp B ρ (aZ ent [(b,.box T (cs.set k (.ref j)))]) used w:=by
 refine h.swap fun id e2 he=> ?_
 simp only [aZ]at he
 cases hl:look? [(b,Entry.box T (cs.set k (.ref j)))] id with
 |none=>
  rw [hl]at he
  exact⟨e2,he,(h.he id e2 he).1,rfl,(h.he id e2 he).2.2⟩
 |some e=>
  obtain⟨rfl,rfl⟩:=look?_one hl
  rw [hl]at he;cases he
  obtain⟨⟨a,k1,k2,k3,k4⟩,_,BV⟩:=h.he _ _ hb
  have hm:(cs.set k (.ref j)).map (Cell.conc ρ)=cs.map (Cell.conc ρ):=by
   apply List.ext_getElem?
   intro n
   simp only [List.getElem?_map,List.getElem?_set]
   by_cases hkn:k=n
   ·subst hkn
    have gm:=(z6.1 hk).1
    rw [if_pos rfl,if_pos gm,hk]
    simp only [Option.map_some,Cell.conc,hn]
   ·simp [hkn]
  refine⟨_,hb,⟨a,k1,by rw [hm];exact k2,k3,k4⟩,rfl,fun c hc=> ?_⟩
  rcases List.mem_or_eq_of_mem_set hc with hc | rfl
  ·exact BV c hc
  ·exact hj
theorem aif{ent ent':Nat→Option Entry}{used used':Nat→Bool}{b k j:Nat}(h:Hp B ρ ent used w)(hc:aie ent used b k j=some (ent',used')):
  ∃ ρ':Nm,Ext B used ρ ρ'∧(∀ id,used id=true→used' id=true)∧Hp B ρ' ent' used' w:=by
 unfold aie at hc
 split at hc
 ·rename_i T cs hb
  split at hc
  ·rename_i i hk
   cases hu:used j with
   |true=>simp [hu]at hc
   |false=>
    simp only [hu,cond_false]at hc
    have hbu:=(h.he _ _ hb).2.1
    have hbj:Nat.beq j b=false:=by
     cases hq:Nat.beq j b with
     |false=>rfl
     |true=>rw [q8 hq,hbu]at hu;cases hu
    split at hc
    ·rename_i e t xs he
     cases hc
     obtain⟨⟨cs0,q1,q2,q3⟩,hiu,_⟩:=h.he _ _ he
     have hib:Nat.beq i b=false:=by
      cases hq:Nat.beq i b with
      |false=>rfl
      |true=>have:=q8 hq;subst this;rw [hb]at he;cases he
     obtain⟨x1,h1⟩:=h.rowTo (xs':=xs) (w':=w) (v':=ρ i) he hu (Chg.refl w _) q1 q2 (fun _ hb=> .inr hb)
     refine⟨_,x1,fun id jy=>ic id jy,?_⟩
     refine Hp.reref (i:=i) h1 ?_ hk (by simp [bk,memN]) ?_
     ·simp only [aZ,look?,hbj,hib,cond_false];exact hb
     ·rw [fy ρ j (show HX (ρ i)=ρ i from HY _),Ew hu ρ _ i hiu]
    ·rename_i e t xs he
     cases hc
     obtain⟨q1,hiu,_⟩:=h.he _ _ he
     have Ff:=Ew hu ρ (ρ i)
     obtain⟨x1,h1⟩:=h.names (ρ':=upd ρ j (ρ i)) (es:= [(j,.row false e t xs)]) (new:= [j]) Ff rfl (fun id e' hl=>by
      obtain⟨rfl,rfl⟩:=look?_one hl
      refine⟨?_,by simp [bk,memN],trivial,rfl⟩
      simp only [Entry.holds]at q1 ⊢
      rw [fy ρ _ (show HX (ρ i)=ρ i from HY _)];exact q1)
     refine⟨_,x1,fun id jy=>ic id jy,?_⟩
     refine Hp.reref (i:=i) h1 ?_ hk (by simp [bk,memN]) ?_
     ·simp only [aZ,look?,hbj,cond_false];exact hb
     ·rw [fy ρ j (show HX (ρ i)=ρ i from HY _),Ff i hiu]
    ·rename_i e t xs he
     cases hc
     have hib:Nat.beq i b=false:=by
      cases hq:Nat.beq i b with
      |false=>rfl
      |true=>have:=q8 hq;subst this;rw [hb]at he;cases he
     obtain⟨ρ',v1,v2,x1,h1⟩:=h.treeName he hu
     refine⟨ρ',x1,fun id jy=>ic id jy,?_⟩
     refine Hp.reref (i:=i) h1 ?_ hk (by simp [bk,memN]) (by rw [v1,v2])
     simp only [aZ,look?,NE,w8,List.map_nil,hbj,hib,cond_false];exact hb
    ·cases hc
  ·cases hc
 ·cases hc
theorem adh: ∀ {l:List (Nat×Nat)} {j:Nat} {ρ:Nm} {ent ent':Nat→Option Entry} {used used':Nat→Bool},Hp B ρ ent used w→abT l j ent used=some (ent',used')→
  ∃ ρ':Nm,Ext B used ρ ρ'∧(∀ id,used id=true→used' id=true)∧Hp B ρ' ent' used' w
 | [],_,ρ,_,_,_,_,h,hc=>by
  simp only [abT,w3,Prod.mk.injEq]at hc
  obtain⟨rfl,rfl⟩:=hc
  exact⟨ρ,Ext.refl _ _ _,fun _ h=>h,h⟩
 |p::r,j,ρ,ent,ent',used,used',h,hc=>by
  simp only [abT]at hc
  split at hc
  ·rename_i e u Jr
   obtain⟨ρ1,x1,u1,h1⟩:=aif h Jr
   obtain⟨ρ2,x2,u2,h2⟩:=adh h1 hc
   exact⟨ρ2,x1.trans x2 u1,fun id jy=>u2 id (u1 id jy),h2⟩
  ·cases hc
theorem YT{m:Nat}{G l:List Nat}{fz:Bool}{s':St}(h:Hp B ρ s.ent s.used w)(hc:ade m G fz l s=some s'):
  ∃ ρ':Nm,Ext B s.used ρ ρ'∧Hp B ρ' s'.ent s'.used w:=by
 have hz: ∃ ρ0:Nm,Ext B s.used ρ ρ0∧Hp B ρ0 (bif fz then aZ s.ent (frz s.ent (QA s.ent (aK 0 m)++l))else s.ent) s.used w:=by
  cases fz with
  |false=>exact⟨ρ,Ext.refl _ _ _,h⟩
  |true=>
   obtain⟨ρ0,_,x0,h0⟩:=Hp.freezes (e0:=s.ent) (fun _ _ h=>h) h (QA s.ent (aK 0 m)++l)
   exact⟨ρ0,x0,h0⟩
 obtain⟨ρ0,x0,h0⟩:=hz
 unfold ade at hc
 split at hc
 ·rename_i e u Jr
  cases hc
  obtain⟨ρ1,x1,_,h1⟩:=adh h0 Jr
  refine⟨ρ1,x0.trans x1 fun _ h=>h,?_⟩
  show Hp B ρ1 (YX G e) u w
  refine h1.less fun id e2 he=> ?_
  simp only [YX]at he
  cases hm:memN G id with
  |false=>
   simp only [hm,cond_false]at he
   exact⟨e2,he,(h1.he id e2 he).1,fun _ h=>h,(h1.he id e2 he).2.2⟩
  |true=>
   simp only [hm,cond_true]at he
   split at he
   ·rename_i e1 he1
    cases he
    exact⟨e1,he1,trivial,(fun b hb=>by cases hb),trivial⟩
   ·cases he
 ·cases hc
theorem Hh(m:Nat)(G:List Nat)(fz:Bool)(fr:Nat):Rl P fn m (LP P fn m G fz fr):=by
 intro B ρ s a w o hM hu h
 unfold LP at h
 split at h
 ·rename_i v hv
  have hr:=Lk hM hv
  cases BV:v.inUb s.used with
  |false=>simp [BV]at h
  |true=>
   simp only [BV,cond_true]at h
   split at h
   ·rename_i s' hcn
    obtain⟨ρ1,x1,h1⟩:=YT hM.hp hcn
    obtain⟨ρ',h1,h2,h3,h4,h5⟩:=NG h1 h
    refine⟨ρ',(x1.sub hu).trans h1 fun _ h=>h,?_,h3,h4,h5⟩
    rw [h2,SV.conc_congr (U:=s.used) (fun id jy=>x1.nm id jy) (SV.inUb_sound BV)]
    exact hr
   ·cases h
 ·cases h
theorem aeN{G:List Nat}{ent:Nat→Option Entry}{used:Nat→Bool}(h1:Hp B ρ ent used w):Hp B ρ (YX G ent) used w:=by
 refine h1.less fun id e2 he=> ?_
 simp only [YX]at he
 cases hm:memN G id with
 |false=>
  simp only [hm,cond_false]at he
  exact⟨e2,he,(h1.he id e2 he).1,fun _ h=>h,(h1.he id e2 he).2.2⟩
 |true=>
  simp only [hm,cond_true]at he
  split at he
  ·rename_i e1 he1
   cases he
   exact⟨e1,he1,trivial,(fun b hb=>by cases hb),trivial⟩
  ·cases he
theorem akS{r:SV}{i:Nat}{y:Option Value}(h:slM r=some (i,y)):r=mkM i y:=by
 unfold slM at h
 split at h
 ·cases h;rfl
 ·cases h;rfl
 ·cases h
theorem aaR(m:Nat)(G:List Nat):Rl P fn m (Zl P fn m G):=by
 intro B ρ s a w o hM hu h
 unfold Zl at h
 split at h
 ·rename_i r0 hv
  split at h
  case h_2=>cases h
  rename_i i y hsl
  have hrv:r0=mkM i y:=akS hsl
  subst hrv
  have hr:=Lk hM hv
  cases BV:(mkM i y).inUb s.used with
  |false=>simp [BV]at h
  |true=>
   simp only [BV,cond_true]at h
   have hsu:=SV.inUb_sound BV
   split at h
   ·rename_i s' hcn
    obtain⟨ρ1,x1,h1⟩:=YT hM.hp hcn
    split at h
    ·rename_i e t xs he
     cases hb:Nat.blt i m with
     |false=>
      simp only [hb,cond_false]at h
      obtain⟨ρ',g1,g2,g3,g4,g5⟩:=NG (aeN h1) h
      refine⟨ρ',(x1.sub hu).trans g1 fun _ h=>h,?_,g3,g4,g5⟩
      rw [g2,SV.conc_congr (U:=s.used) (fun id jy=>x1.nm id jy) hsu]
      exact hr
     |true=>
      simp only [hb,cond_true]at h
      cases hj:(s'.used ((s.next + 20) * 64)|| !(aK 0 m).all s'.used)with
      |true=>simp [hj]at h
      |false=>
       simp only [hj,cond_false]at h
       simp only [Bool.or_eq_false_iff,Bool.not_eq_false']at hj
       obtain⟨hju,hal⟩:=hj
       obtain⟨⟨cs0,q1,q2,q3⟩,hiu,_⟩:=h1.he _ _ he
       obtain⟨x2,h2⟩:=h1.rowTo (xs':=xs) (w':=w) (v':=ρ1 i) he hju (Chg.refl w _) q1 q2 (fun _ hb=> .inr hb)
       have hU: ∀ id,Nat.blt id m=true→s'.used id=true:=fun id jy=>by
        have gm:id < m:=z7 jy
        exact List.all_eq_true.1 hal id (List.mem_of_getElem? (by rw [Ha (k:=m) (n:=0) gm,Nat.zero_add]))
       obtain⟨ρ',g1,g2,g3,g4,g5⟩:=NG (aeN h2) h
       refine⟨ρ',((x1.sub hu).trans (x2.sub hU) fun _ h=>h).trans g1 fun _ h=>h,?_,g3,g4,g5⟩
       have hc:(mkM ((s.next + 20) * 64) y).conc (upd ρ1 ((s.next + 20) * 64) (ρ1 i))=(mkM i y).conc ρ:=by
        have e1:ρ1 i=ρ i:=x1.nm i (by cases y <;> simpa [mkM,SV.inUb,V1.inUb,Cell.inUb,Cell.ids] using BV)
        have e2:(upd ρ1 ((s.next + 20) * 64) (ρ1 i)) ((s.next + 20) * 64)=ρ i:=by rw [fy ρ1 _ (show HX (ρ1 i)=ρ1 i from HY _),e1]
        cases y <;> simp only [mkM,SV.conc,V1.conc,Cell.conc,w8,List.map_nil,e2]
       rw [g2,hc]
       exact hr
    ·cases h
   ·cases h
 ·cases h
theorem ae1(m:Nat)(G:List Nat):Rl P fn m (acd P fn m G):=by
 intro B ρ s a w o hM hu h
 unfold acd at h
 split at h
 ·rename_i i hv
  have hr:=Lk hM hv
  cases BV:(SV.one ⟨false,[.ref i]⟩).inUb s.used with
  |false=>simp [BV]at h
  |true=>
   simp only [BV,cond_true]at h
   have hsu:=SV.inUb_sound BV
   split at h
   ·rename_i s' hcn
    obtain⟨ρ1,x1,h1⟩:=YT hM.hp hcn
    split at h
    ·rename_i e t xs he
     cases hb:Nat.blt i m with
     |false=>
      simp only [hb,cond_false]at h
      obtain⟨ρ',g1,g2,g3,g4,g5⟩:=NG h1 h
      refine⟨ρ',(x1.sub hu).trans g1 fun _ h=>h,?_,g3,g4,g5⟩
      rw [g2,SV.conc_congr (U:=s.used) (fun id jy=>x1.nm id jy) hsu]
      exact hr
     |true=>
      simp only [hb,cond_true]at h
      cases hj:(s'.used ((s.next + 20) * 64)|| !(aK 0 m).all s'.used)with
      |true=>simp [hj]at h
      |false=>
       simp only [hj,cond_false]at h
       simp only [Bool.or_eq_false_iff,Bool.not_eq_false']at hj
       obtain⟨hju,hal⟩:=hj
       obtain⟨q1,hiu,_⟩:=h1.he _ _ he
       have Ff:=Ew hju ρ1 (ρ1 i)
       obtain⟨x2,h2⟩:=h1.names (ρ':=upd ρ1 ((s.next + 20) * 64) (ρ1 i)) (es:= [((s.next + 20) * 64,.row false e t xs)]) (new:= [(s.next + 20) * 64]) Ff rfl (fun id e' hl=>by
        obtain⟨rfl,rfl⟩:=look?_one hl
        refine⟨?_,by simp [bk,memN],trivial,rfl⟩
        simp only [Entry.holds]at q1 ⊢
        rw [fy ρ1 _ (show HX (ρ1 i)=ρ1 i from HY _)];exact q1)
       have hU: ∀ id,Nat.blt id m=true→s'.used id=true:=fun id jy=>by
        have gm:id < m:=z7 jy
        exact List.all_eq_true.1 hal id (List.mem_of_getElem? (by rw [Ha (k:=m) (n:=0) gm,Nat.zero_add]))
       obtain⟨ρ',g1,g2,g3,g4,g5⟩:=NG h2 h
       refine⟨ρ',((x1.sub hu).trans (x2.sub hU) fun _ h=>h).trans g1 fun _ h=>h,?_,g3,g4,g5⟩
       have hc:(SV.one ⟨false,[.ref ((s.next + 20) * 64)]⟩).conc (upd ρ1 ((s.next + 20) * 64) (ρ1 i))=(SV.one ⟨false,[.ref i]⟩).conc ρ:=by
        have e1:ρ1 i=ρ i:=x1.nm i (by simpa [SV.inUb,V1.inUb,Cell.inUb,Cell.ids] using BV)
        simp only [SV.conc,V1.conc,Cell.conc]
        rw [fy ρ1 _ (show HX (ρ1 i)=ρ1 i from HY _),e1]
       rw [g2,hc]
       exact hr
    ·cases h
   ·cases h
 ·cases h
theorem fnJ_conc{ρ ρ':Nm}{U:Nat→Bool}{j:Nat}(h: ∀ id,U id=true→ρ' id=ρ id)(hj:ρ' j= .nilFunc){c:Cell}(hc:c.inU U):(fnJ j c).conc ρ'=c.conc ρ:=by
 unfold fnJ
 split
 ·exact hj
 ·exact Cell.conc_congr h hc
theorem V1.fnJ_conc{ρ ρ':Nm}{U:Nat→Bool}{j:Nat}(h: ∀ id,U id=true→ρ' id=ρ id)(hj:ρ' j= .nilFunc){v:V1}(hc:v.inU U):(v.fnJ j).conc ρ'=v.conc ρ:=by
 obtain⟨g,cs⟩:=v
 have e:(cs.map (SX.fnJ j)).map (Cell.conc ρ')=cs.map (Cell.conc ρ):=by
  rw [List.map_map];exact List.map_congr_left fun c hm=>SX.fnJ_conc h hj (hc c hm)
 cases g with
 |true=>show Value.agg ((cs.map (SX.fnJ j)).map (Cell.conc ρ')).toArray=_;rw [e];rfl
 |false=>
  match cs,hc with
  | [],_=>rfl
  | [c],hc=>exact SX.fnJ_conc h hj (hc c (z8.2 rfl))
  |_::_::_,_=>rfl
theorem SV.fnJ_conc{ρ ρ':Nm}{U:Nat→Bool}{j:Nat}(h: ∀ id,U id=true→ρ' id=ρ id)(hj:ρ' j= .nilFunc){v:SV}(hc:v.inU U):(v.fnJ j).conc ρ'=v.conc ρ:=by
 cases v with
 |one v=>exact V1.fnJ_conc h hj hc
 |tup l=>
  show Value.tuple ((l.map (V1.fnJ j)).map (V1.conc ρ')).toArray=Value.tuple (l.map (V1.conc ρ)).toArray
  rw [List.map_map,List.map_congr_left (f:=V1.conc ρ' ∘ V1.fnJ j) (g:=V1.conc ρ) fun v hv=>V1.fnJ_conc h hj (hc v hv)]
theorem ae3(m:Nat):Rl P fn m (acf P fn m):=by
 intro B ρ s a w o hM hu h
 unfold acf at h
 split at h
 ·rename_i v hv
  have hr:=Lk hM hv
  cases hj:(s.used ((s.next + 30) * 64)|| !(v.inUb s.used))with
  |true=>simp [hj]at h
  |false=>
   simp only [hj,cond_false]at h
   simp only [Bool.or_eq_false_iff,Bool.not_eq_false']at hj
   obtain⟨hju,BV⟩:=hj
   have hsu:=SV.inUb_sound BV
   have Ff:=Ew hju ρ .nilFunc
   obtain⟨x2,h2⟩:=hM.hp.names (ρ':=upd ρ ((s.next + 30) * 64) .nilFunc) (es:= [((s.next + 30) * 64,.gone)]) (new:= [(s.next + 30) * 64]) Ff rfl (fun id e' hl=>by
    obtain⟨rfl,rfl⟩:=look?_one hl
    exact⟨trivial,by simp [bk,memN],trivial,rfl⟩)
   obtain⟨ρ',g1,g2,g3,g4,g5⟩:=NG h2 h
   refine⟨ρ',(x2.sub hu).trans g1 fun _ h=>h,?_,g3,g4,g5⟩
   rw [g2,SV.fnJ_conc (U:=s.used) Ff (fy ρ _ rfl) hsu]
   exact hr
 ·cases h
theorem reJ_conc{ρ ρ':Nm}{U:Nat→Bool}{i j:Nat}(h: ∀ id,U id=true→ρ' id=ρ id)(hj:ρ' j=ρ i){c:Cell}(hc:c.inU U):(reJ i j c).conc ρ'=c.conc ρ:=by
 unfold reJ
 split
 ·rename_i k
  cases hb:Nat.beq k i with
  |false=>exact Cell.conc_congr h hc
  |true=>
   have:=q8 hb
   subst this
   exact hj
 ·exact Cell.conc_congr h hc
theorem V1.reJ_conc{ρ ρ':Nm}{U:Nat→Bool}{i j:Nat}(h: ∀ id,U id=true→ρ' id=ρ id)(hj:ρ' j=ρ i){v:V1}(hc:v.inU U):(v.reJ i j).conc ρ'=v.conc ρ:=by
 obtain⟨g,cs⟩:=v
 have e:(cs.map (SX.reJ i j)).map (Cell.conc ρ')=cs.map (Cell.conc ρ):=by
  rw [List.map_map];exact List.map_congr_left fun c hm=>SX.reJ_conc h hj (hc c hm)
 cases g with
 |true=>show Value.agg ((cs.map (SX.reJ i j)).map (Cell.conc ρ')).toArray=_;rw [e];rfl
 |false=>
  match cs,hc with
  | [],_=>rfl
  | [c],hc=>exact SX.reJ_conc h hj (hc c (z8.2 rfl))
  |_::_::_,_=>rfl
theorem SV.reJ_conc{ρ ρ':Nm}{U:Nat→Bool}{i j:Nat}(h: ∀ id,U id=true→ρ' id=ρ id)(hj:ρ' j=ρ i){v:SV}(hc:v.inU U):(v.reJ i j).conc ρ'=v.conc ρ:=by
 cases v with
 |one v=>exact V1.reJ_conc h hj hc
 |tup l=>
  show Value.tuple ((l.map (V1.reJ i j)).map (V1.conc ρ')).toArray=Value.tuple (l.map (V1.conc ρ)).toArray
  rw [List.map_map,List.map_congr_left (f:=V1.conc ρ' ∘ V1.reJ i j) (g:=V1.conc ρ) fun v hv=>V1.reJ_conc h hj (hc v hv)]
theorem adV{B:Base}{w:World}: ∀ (l:List Nat) (j:Nat) (s s':St) (v v':SV) (ρ:Nm),Hp B ρ s.ent s.used w→aik l j s v=some (s',v')→
  ∃ ρ':Nm,Ext B s.used ρ ρ'∧Hp B ρ' s'.ent s'.used w∧v'.conc ρ'=v.conc ρ∧ ∀ i,s.used i=true→s'.used i=true
 | [],_,s,s',v,v',ρ,hp,h=>by
  cases h
  exact⟨ρ,Ext.refl _ _ _,hp,rfl,fun _ h=>h⟩
 |i::r,j,s,s',v,v',ρ,hp,h=>by
  simp only [aik]at h
  split at h
  ·rename_i e t xs he
   cases hc:(s.used j|| !(v.inUb s.used&&s.used i))with
   |true=>rw [hc]at h;cases h
   |false=>
    rw [hc]at h
    simp only [cond_false]at h
    simp only [Bool.or_eq_false_iff,Bool.not_eq_false',w4]at hc
    obtain⟨hju,BV,_⟩:=hc
    have hsu:=SV.inUb_sound BV
    obtain⟨q1,_,_⟩:=hp.he _ _ he
    have Ff:=Ew hju ρ (ρ i)
    have hsm:upd ρ j (ρ i) j=ρ i:=fy ρ _ (show HX (ρ i)=ρ i from HY _)
    obtain⟨x2,h2⟩:=hp.names (ρ':=upd ρ j (ρ i)) (es:= [(j,.row false e t xs)]) (new:= [j]) Ff rfl (fun id e' hl=>by
     obtain⟨rfl,rfl⟩:=look?_one hl
     refine⟨?_,by simp [bk,memN],trivial,rfl⟩
     simp only [Entry.holds]at q1 ⊢
     rw [hsm];exact q1)
    have hU: ∀ id,s.used id=true→bk s.used [j] id=true:=fun id jy=>by simp [bk,jy]
    obtain⟨ρ',g1,g2,g3,g4⟩:=adV r (j + 1) _ s' _ v' _ h2 h
    refine⟨ρ',x2.trans g1 hU,g2,?_,fun id jy=>g4 id (hU id jy)⟩
    rw [g3,SV.reJ_conc Ff hsm hsu]
  ·exact adV r (j + 1) s s' v v' ρ hp h
theorem ae2(m:Nat)(G:List Nat):Rl P fn m (ace P fn m G):=by
 intro B ρ s a w o hM hu h
 unfold ace at h
 split at h
 ·rename_i v hv
  have hr:=Lk hM hv
  split at h
  ·rename_i s1 u hd
   obtain⟨ρ1,x1,h1,c1,hU⟩:=adV _ _ _ _ _ _ _ hM.hp hd
   cases BV:u.inUb s1.used with
   |false=>simp [BV]at h
   |true=>
    simp only [BV,cond_true]at h
    have hsu:=SV.inUb_sound BV
    split at h
    ·rename_i s' hcn
     obtain⟨ρ2,x2,h2⟩:=YT h1 hcn
     obtain⟨ρ',g1,g2,g3,g4,g5⟩:=NG h2 h
     refine⟨ρ',((x1.sub hu).trans (x2.sub fun i hi=>hU i (hu i hi)) fun _ h=>h).trans g1 fun _ h=>h,?_,g3,g4,g5⟩
     rw [g2,SV.conc_congr (U:=s1.used) (fun id jy=>x2.nm id jy) hsu,c1]
     exact hr
    ·cases h
  ·cases h
 ·cases h
theorem ahM{m:Nat}{G:List Nat}{r:R}{o:Out}(h:r.outAny P fn m G=some o): ∃ lo,Rl P fn m lo∧r.outB lo=some o:=by
 unfold R.outAny at h
 split at h
 ·rename_i o' h';cases h;exact⟨_,acg m,h'⟩
 ·split at h
  ·rename_i o' h';cases h;exact⟨_,Hh m G false 0,h'⟩
  ·split at h
   ·rename_i o' h';cases h;exact⟨_,Hh m G true 0,h'⟩
   ·split at h
    ·rename_i o' h';cases h;exact⟨_,aaR m G,h'⟩
    ·split at h
     ·rename_i o' h';cases h;exact⟨_,Hh m G true 1000,h'⟩
     ·split at h
      ·rename_i o' h';cases h;exact⟨_,ae1 m G,h'⟩
      ·split at h
       ·rename_i o' h';cases h;exact⟨_,ae2 m G,h'⟩
       ·exact⟨_,ae3 m,h⟩
theorem ajJ{m:Nat}{G:List Nat}{fs:Bool}{r:R}{o:Out}(h:r.outF P fn m G fs=some o): ∃ lo,Rl P fn m lo∧r.outB lo=some o:=by
 cases fs with
 |true=>exact⟨_,Hh m G true 1,h⟩
 |false=>exact ahM h
theorem aiJ(m:Nat)(G:List Nat): ∀ n,Rl P fn m (akd P fn m G n)
 |0=>acg m
 |1=>Hh m G false 0
 |2=>Hh m G true 0
 |3=>aaR m G
 |_ + 4=>Hh m G true 1000
theorem ajK{m:Nat}{G:List Nat}{fs:Bool}{n:Nat}{r:R}{o:Out}(h:r.outP P fn m G fs n=some o)(dq: ∀ b∈o.nd,b=true):
  ∃ lo,Rl P fn m lo∧r.sat fun x s=>(x= .normal∨x= .ret)∧ ∃ o',lo s=some o'∧OutLe o o':=by
 cases n with
 |zero=>obtain⟨lo,h1,h2⟩:=ajJ h;exact⟨lo,h1,abB h2 dq⟩
 |succ k=>exact⟨_,aiJ m G k,Sl h dq⟩
theorem Vd{k:FuncId}(aS:P.follows .mixedOrders=true)(hf:P.funcs[k]? =some fn){lf:List (St→R)}(hl: ∀ c,fn.body=some c→LOk P (fun k=>Nat.blt k fn.ntmps) lf c){args:List SV}{es:List Entry}{o:Out}
  (h:agV P tbl lf fn args es=some o) (dq: ∀ b∈o.nd,b=true) (mem:Nat→Option Obj) (ρ:Nm) (w:World) (hp:HpL w mem es ρ w):
  Calls P k (args.map (SV.conc ρ)).toArray w fun e w'=> ∃ ρ':Nm,Ext (memB w mem) (fun i=>Nat.blt i es.length) ρ ρ'∧e= .returned (o.res.conc ρ')∧o.es.length=es.length∧
   o.res.inU (fun i=>Nat.blt i (o.es++o.new).length)∧HpL w mem (o.es++o.new) ρ' w':=by
 unfold agV at h
 split at h
 ·rename_i c hc
  cases hck:(args.all (SV.inUb fun i=>Nat.blt i es.length)&&Nat.ble args.length fn.ntmps)with
  |false=>simp [hck]at h
  |true=>
   simp only [hck,cond_true]at h
   simp only [w4,List.all_eq_true]at hck
   have hM:=Mdl.init (z7 hck.2) (fun v hv=>SV.inUb_sound (hck.1 v hv)) hp
   obtain⟨lo,hlo,h⟩:=ajK h dq
   refine calls_of_wp hf hc ?_
   have hpost:=R.sat_and h (aac (P:=P) (tbl:=tbl) (W:=fun k=>Nat.blt k fn.ntmps) lf c (SX.init args es) (hl c hc))
   refine wp_mono (wx (B:=agU fn.ntmps w mem) aS lf c _ _ (hl c hc) hpost _ _ w hM) fun e a' w' ⟨x,s',ρ1,he,hx1,hM',⟨hx,o',ho',Gt⟩,hu⟩=> ?_
   obtain⟨ρ2,x2,hr,l2,i2,h2⟩:=hlo hM' (fun i hi=>hu i hi) ho'
   rw [← Gt.res]at hr
   have hfin: ∃ ρ':Nm,Ext (memB w mem) (fun i=>Nat.blt i es.length) ρ ρ'∧Ending.returned (o.res.conc ρ2)=Ending.returned (o.res.conc ρ')∧o.es.length=es.length∧
     o.res.inU (fun i=>Nat.blt i (o.es++o.new).length)∧HpL w mem (o.es++o.new) ρ' w':=by
    refine⟨ρ2,?_,rfl,by rw [Gt.len,l2],Gt.inU i2,Gt.hp _ _ _ _ h2⟩
    have x3:Ext (agU fn.ntmps w mem) (fun i=>Nat.blt i es.length) ρ ρ2:=Ext.trans (U':=fun i=>Nat.blt i es.length) hx1 x2 fun _ h=>h
    exact⟨x3.nm,x3.old,x3.new⟩
   subst he
   rcases hx with rfl | rfl <;> exact⟨hM'.hd,_,hr,hfin⟩
 ·cases h
def PF.of(P:Program)(tbl:List (PF P))(lf:List (St→R))(aS:P.follows .mixedOrders=true)(k:FuncId)(fn:Func)(hf:P.funcs[k]? =some fn)(hl: ∀ c,fn.body=some c→LOk P (fun k=>Nat.blt k fn.ntmps) lf c)
  (F:List SV→List Entry→Option Out) (h: ∀ vs es r,F vs es=some r→agV P tbl lf fn vs es=some r):PF P:=
 {k:=k,F:=F,ok:=fun vs es _ hv dq mem ρ w hp=>Vd aS hf hl (h vs es _ hv) dq mem ρ w hp }
end
end Go.SX
namespace Go.SX
open Go.RowKit
section
variable{P:Program}{tbl:List (PF P)}{s s' t:St}{W:Nat→Bool}{lf:List (St→R)}{B:Base}{ρ:Nm}{a:Act}{w:World}{post post':Ex→St→Prop}{σ:Nat→Option Nat}
def XB(σ:Nat→Option Nat)(ρ:Nm):Nm:=⟨fun id=>match σ id with | some j=>ρ.nm j | none=> .nilFunc,ρ.mem,fun id=>match σ id with | some j=>ρ.fp j | none=> []⟩
theorem qX{i j:Nat}(h:σ i=some j):XB σ ρ i=ρ j:=by simp only [Nm.of,XB,h]
theorem ZD{i j:Nat}(h:σ i=some j):(XB σ ρ).fp i=ρ.fp j:=by simp only [XB,h]
structure SubR (σ:Nat→Option Nat) (t s:St):Prop where
 look: ∀ k x,t.look k=some x→ ∃ y,s.look k=some y∧x.g=none∧y.g=none∧x.v.ren σ=some y.v∧x.v.inU t.used
 ent: ∀ id e,t.ent id=some e→ ∃ j e',σ id=some j∧s.ent j=some e'∧e.ren σ=some e'∧t.used id=true∧e.inU t.used
 inj: ∀ id id' j,σ id=some j→σ id'=some j→id=id'
theorem SubR.mdl(h:SubR σ t s)(hM:Mdl B ρ s a w):Mdl B (XB σ ρ) t a w:=by
 have hr: ∀ i j,(fun _:Nat=>true) i=true→σ i=some j→ρ j=XB σ ρ i:=fun i j _ hj=>(qX hj).symm
 have RU: ∀ c:Cell,c.inU fun _=>true:=fun c=>by cases c <;> simp [Cell.inU]
 have hallV: ∀ v:SV,v.inU fun _=>true:=fun v=>by
  cases v with
  |one v=>exact fun c _=>RU c
  |tup vs=>exact fun v _ c _=>RU c
 have hob: ∀ (id:Nat) (e:Entry) (j:Nat) (e':Entry),σ id=some j→e.ren σ=some e'→e.ob (XB σ ρ) id=e'.ob ρ j:=by
  intro id e j e' h1 h3
  cases e with
  |box T cs=>simp only [Entry.ren,q9]at h3;obtain⟨cs',_,rfl⟩:=h3;simp only [Entry.ob,qX h1]
  |row own e t xs=>simp only [Entry.ren,w3]at h3;subst h3;exact aaz (qX h1)
  |tree e t xs ho=>
   cases ho with
   |none=>simp only [Entry.ren,w3]at h3;subst h3;simp only [Entry.ob,qX h1,ZD h1]
   |some q=>simp only [Entry.ren,q9]at h3;obtain⟨cs',_,rfl⟩:=h3;simp only [Entry.ob,qX h1,ZD h1]
  |wk e t xs=>simp only [Entry.ren,w3]at h3;subst h3;simp only [Entry.ob,qX h1]
  |mp ks=>simp only [Entry.ren,w3]at h3;subst h3;simp only [Entry.ob,qX h1]
  |gone=>simp only [Entry.ren,w3]at h3;subst h3;rfl
 refine⟨hM.hd,hM.hn,fun k x hx=> ?_,fun k x j b hx hj=> ?_,fun k x hx=> ?_,⟨fun id e he=> ?_,fun id id' e e' b he he' hb hb'=> ?_,hM.hp.hf.os,hM.hp.hf.tape,hM.hp.hf.output,hM.hp.hf.size,hM.hp.hf.mem,hM.hp.hf.dat,hM.hp.hf.gl⟩,hM.hl⟩
 ·obtain⟨y,h1,h2,h3,h4,_⟩:=h.look k x hx
  rw [hM.hs k y h1]
  simp only [SS.at,h2,h3]
  rw [SV.ren_conc (U:=fun _=>true) hr (hallV _) h4]
 ·obtain⟨_,_,h2,_⟩:=h.look k x hx;rw [h2]at hj;cases hj
 ·obtain⟨_,_,_,_,_,h5⟩:=h.look k x hx;exact h5
 ·obtain⟨j,e',h1,h2,h3,h4,h5⟩:=h.ent id e he
  refine⟨?_,h4,h5⟩
  have g1:=(hM.he j e' h2).1
  cases e with
  |box T cs=>
   simp only [Entry.ren,q9]at h3
   obtain⟨cs',Jr,rfl⟩:=h3
   obtain⟨b,k1,k2,k3,k4⟩:=g1
   refine⟨b,by rw [qX h1];exact k1,?_,k3,k4⟩
   rw [← Fj Jr fun x hx y hy=>Cell.ren_conc (U:=fun _=>true) hr (RU x) hy]
   exact k2
  |row own e0 t xs=>
   simp only [Entry.ren,w3]at h3;subst h3
   cases own with
   |false=>simp only [Entry.holds];rw [qX h1];exact g1
   |true=>
    obtain⟨cs,k1,k2,k3⟩:=g1
    simp only [Entry.holds];rw [qX h1]
    exact⟨cs,k1,k2,k3⟩
  |tree e0 t xs ho=>exact(adM h3 g1 (qX h1) (ZD h1) rfl (fun i j Yk=>qX Yk)).1
  |wk e0 t xs=>
   simp only [Entry.ren,w3]at h3;subst h3
   simp only [Entry.holds];rw [qX h1];exact g1
  |mp ks=>
   simp only [Entry.ren,w3]at h3;subst h3
   simp only [Entry.holds];rw [qX h1];exact g1
  |gone=>trivial
 ·obtain⟨j,e1,h1,h2,h3,_⟩:=h.ent id e he
  obtain⟨j',e1',h1',h2',h3',_⟩:=h.ent id' e' he'
  rw [hob id e j e1 h1 h3]at hb
  rw [hob id' e' j' e1' h1' h3']at hb'
  have:=hM.hp.hi j j' e1 e1' b h2 h2' hb hb'
  subst this
  exact h.inj id id' j h1 h1'
theorem Sat.loop{b:Code}(U:Nat→Bool)(I:Nat→St→Prop)(hU: ∀ m s,I m s→ ∀ id,U id=true→s.used id=true)
  (round: ∀ m s,I m s→Sat P B b s fun x s'=>match x with | .normal=> ∃ m' s'' σ,m' < m∧I m' s''∧SubR σ s'' s'∧(∀ id,U id=true→σ id=some id) | x=>post x s')
  (m:Nat) (s:St) (h:I m s) (hM:Mdl B ρ s a w):
  (Code.loop b).wp P (fun e a' w'=> ∃ x s' ρ',e=Ex.out x∧Ext B U ρ ρ'∧Mdl B ρ' s' a' w'∧post x s') a w:=by
 refine Go.wp_loop_ghost (fun m a w=> ∃ s ρ',I m s∧Ext B U ρ ρ'∧Mdl B ρ' s a w) m ⟨s,ρ,h,Ext.refl _ _ _,hM⟩ fun m a w ⟨s,ρ1,hI,Cr,hM⟩=> ?_
 refine wp_mono (round m s hI ρ1 a w hM) fun e a' w' ⟨x,s',ρ',he,hag',hM',hp⟩=> ?_
 subst he
 have hagg:Ext B U ρ ρ':=Cr.trans (hag'.sub (hU m s hI)) fun _ h=>h
 cases x with
 |normal=>
  obtain⟨m',s'',σ,gm,hI',Ua,hσ⟩:=hp
  refine⟨m',gm,s'',XB σ ρ',hI',⟨fun id jy=> ?_,hagg.old,hagg.new⟩,Ua.mdl hM'⟩
  rw [qX (hσ id jy)];exact hagg.nm id jy
 |exit id=>exact⟨.exit id,s',ρ',rfl,hagg,hM',hp⟩
 |ret=>exact⟨.ret,s',ρ',rfl,hagg,hM',hp⟩
end
structure Shape where
 D:List Nat
 fx:List Nat
 rw:List Nat
 nw:List Nat
def Shape.ids(h:Shape):List Nat:=h.fx++h.rw
def Shape.out(h:Shape):List Nat:=h.rw++h.nw
def Shape.idsX(h:Shape):List Nat:=h.fx++h.out
def Shape.fresh(h:Shape)(s:St):List Nat:=aK (s.next * 64) h.out.length
def Shape.tau(h:Shape)(σ:Nat→Option Nat)(s:St)(id:Nat):Option Nat:=
 bif memN h.fx id then σ id else match PG h.out id with
  |some i=>(h.fresh s)[i]?
  |none=>none
def Shape.old(h:Shape)(σ:Nat→Option Nat):List Nat:=h.ids.filterMap σ
def isD:Option Entry→Bool
 |some (.row false _ _ _)=>true
 |_=>false
def GZ(h:Shape)(τ σ:Nat→Option Nat)(dt:Nat→Bool)(y:St):List Nat→List (Nat×Entry)
 | []=>((h.rw.filterMap σ).filter fun k=> !dt k).map fun k=>(k,Entry.gone)
 |id::r=>match τ id,y.ent id with
  |some k,some e=>match e.ren τ with
   |some e'=>(k,e')::GZ h τ σ dt y r
   |none=>GZ h τ σ dt y r
  |_,_=>GZ h τ σ dt y r
def acN(h:Shape)(σ:Nat→Option Nat)(y s:St):St:=
 let τ:=h.tau σ s
 {look:=fun k=>bif memN h.D k then(match y.look k with | some x=>(x.v.ren τ).map (SS.mk none) | none=>none)else s.clean.look k
  ent:=aZ s.ent (GZ h τ σ (fun k=>isD (s.ent k)) y h.idsX)
  used:=bk s.used (h.fresh s),wr:=fun _=>false,next:=s.next + 1,log:=h.D++s.log,logE:=sG (GZ h τ σ (fun k=>isD (s.ent k)) y h.idsX)++s.logE }
theorem adi(h:Shape)(σ:Nat→Option Nat)(y s:St):Unch s (acN h σ y s):=by
 refine⟨fun k hk=> ?_,fun k hk=> ?_,fun k hk=>w6 _ hk,fun k hk=>w6 _ hk,fun k hk=>ic _ hk⟩
 ·simp only [acN,w7,not_or]at hk ⊢
  have:memN h.D k=false:=by cases hm:memN h.D k with | false=>rfl | true=>exact absurd (SX.memN_mem.1 hm) hk.1
  simp only [this,cond_false]
  exact Ya s k
 ·simp only [acN,w7,not_or]at hk ⊢
  simp only [aZ]
  rw [look?_none (by simpa [sG] using hk.1)]
end Go.SX
namespace Go.SX
open Go.RowKit
structure Fits (ids:List Nat) (t:St):Prop where
 hused: ∀ id,t.used id=memN ids id
 hsome: ∀ id,memN ids id=true→ ∃ e,t.ent id=some e
 hnone: ∀ id,memN ids id=false→t.ent id=none
 hg: ∀ k z,t.look k=some z→z.g=none
structure FitsX (h:Shape) (t:St):Prop where
 hused: ∀ id,t.used id=true→id∈h.idsX
 hsome: ∀ id∈h.fx,∃ e,t.ent id=some e
 hg: ∀ k z,t.look k=some z→z.g=none
section
variable{P:Program}{tbl:List (PF P)}{s s' t:St}{W:Nat→Bool}{lf:List (St→R)}{B:Base}{ρ:Nm}{a:Act}{w:World}{post post':Ex→St→Prop}{σ:Nat→Option Nat}
theorem adw{h:Shape}{τ σ:Nat→Option Nat}{dt:Nat→Bool}{y:St}: ∀ {l:List Nat} {k:Nat} {e:Entry},look? (GZ h τ σ dt y l) k=some e→
  (∃ id∈l,∃ e0,τ id=some k∧y.ent id=some e0∧e0.ren τ=some e)∨((∃ id∈h.rw,σ id=some k)∧e= .gone)
 | [],k,e,hl=>by
  right
  simp only [GZ]at hl
  have key: ∀ l:List Nat,look? (l.map fun k=>(k,Entry.gone)) k=some e→k∈l∧e= .gone:=by
   intro l
   induction l with
   |nil=>intro h;simp [look?]at h
   |cons p r ih=>
    intro h
    simp only [w8,look?]at h
    cases hb:Nat.beq p k with
    |true=>
     have:=q8 hb;subst this
     simp at h;exact⟨by simp,h.symm⟩
    |false=>simp [hb]at h;exact⟨by simp [(ih h).1],(ih h).2⟩
  obtain⟨h1,h2⟩:=key _ hl
  obtain⟨id,h3,h4⟩:=List.mem_filterMap.1 (List.mem_filter.1 h1).1
  exact⟨⟨id,h3,h4⟩,h2⟩
 |id::r,k,e,hl=>by
  simp only [GZ]at hl
  have rec':look? (GZ h τ σ dt y r) k=some e→(∃ i∈id::r,∃ e0,τ i=some k∧y.ent i=some e0∧e0.ren τ=some e)∨((∃ id∈h.rw,σ id=some k)∧e= .gone):=fun hh=>
   (adw hh).imp (fun⟨i,hi,q⟩=>⟨i,by simp [hi],q⟩) fun q=>q
  split at hl
  ·rename_i k' e0 h1 h2
   split at hl
   ·rename_i e' h3
    simp only [look?]at hl
    cases hb:Nat.beq k' k with
    |true=>
     have:=q8 hb;subst this
     simp at hl;subst hl
     exact .inl ⟨id,by simp,e0,h1,h2,h3⟩
    |false=>simp [hb]at hl;exact rec' hl
   ·exact rec' hl
  ·exact rec' hl
theorem ZZ{h:Shape}{τ σ:Nat→Option Nat}{dt:Nat→Bool}{y:St}{k:Nat}: ∀ {l:List Nat},((∃ id∈h.rw,σ id=some k)∧dt k=false)∨(∃ id∈l,∃ e0 e,τ id=some k∧y.ent id=some e0∧e0.ren τ=some e)→ ∃ e,look? (GZ h τ σ dt y l) k=some e
 | [],hk=>by
  simp only [GZ]
  rcases hk with⟨⟨id,h1,h2⟩,hd⟩ | ⟨id,h1,_⟩
  ·have hm:k∈(h.rw.filterMap σ).filter fun k=> !dt k:=List.mem_filter.2 ⟨List.mem_filterMap.2 ⟨id,h1,h2⟩,by simp [hd]⟩
   have key: ∀ l:List Nat,k∈l→ ∃ e,look? (l.map fun k=>(k,Entry.gone)) k=some e:=by
    intro l
    induction l with
    |nil=>intro h;cases h
    |cons p r ih=>
     intro h
     simp only [w8,look?]
     cases hb:Nat.beq p k with
     |true=>exact⟨_,rfl⟩
     |false=>
      rcases List.mem_cons.1 h with rfl | h
      ·simp at hb
      ·exact ih h
   exact key _ hm
  ·cases h1
 |id::r,hk=>by
  simp only [GZ]
  have up: ∀ (p:Nat×Entry),(∃ e,look? (GZ h τ σ dt y r) k=some e)→ ∃ e,look? (p::GZ h τ σ dt y r) k=some e:=fun p ⟨e,he⟩=>by
   simp only [look?]
   cases Nat.beq p.1 k with
   |true=>exact⟨_,rfl⟩
   |false=>exact⟨e,he⟩
  rcases hk with hk | ⟨i,hi,e0,e,h1,h2,h3⟩
  ·have:=ZZ (h:=h) (τ:=τ) (dt:=dt) (y:=y) (l:=r) (.inl hk)
   split
   ·split
    ·exact up _ this
    ·exact this
   ·exact this
  ·rcases List.mem_cons.1 hi with rfl | hi
   ·simp only [h1,h2,h3]
    exact⟨e,look?_same _ _ _⟩
   ·have:=ZZ (h:=h) (τ:=τ) (σ:=σ) (dt:=dt) (y:=y) (l:=r) (.inr ⟨i,hi,e0,e,h1,h2,h3⟩)
    split
    ·split
     ·exact up _ this
     ·exact this
    ·exact this
theorem aaw: ∀ {L:List Nat} {i:Nat},i∈L→ ∃ j,PG L i=some j
 | [],i,h=>by cases h
 |p::r,i,h=>by
  simp only [PG]
  cases hb:Nat.beq p i with
  |true=>exact⟨0,rfl⟩
  |false=>
   rcases List.mem_cons.1 h with rfl | h
   ·simp at hb
   ·obtain⟨j,hj⟩:=aaw h;exact⟨j + 1,by simp [hj]⟩
theorem aaO{n k i j v:Nat}(h:(aK n k)[i]? =some v)(h':(aK n k)[j]? =some v):i=j:=by
 have hi:=(z6.1 h).1
 have hj:=(z6.1 h').1
 rw [Pk]at hi hj
 rw [Ha hi]at h
 rw [Ha hj]at h'
 have:=Option.some.inj (h.trans h'.symm)
 omega
theorem Hp.behind{h:Shape}{B':Base}{Jx0 Jy:St}{ρ2:Nm}{w':World}(hp:Hp B ρ s.ent s.used w)(hx:SubR σ Jx0 s)(hf0:Fits h.ids Jx0)(hfy:FitsX h Jy)
  (hfresh: ∀ i∈h.fresh s,s.used i=false) (hw0:B'.w0=w) (Bp:B'.mem=memBig w s.ent ρ (h.ids.filterMap σ)) (hMy:Hp B' ρ2 Jy.ent Jy.used w')
  (Ff: ∀ id∈h.fx,∀ k,σ id=some k→ρ2 id=ρ k) (hold: ∀ b o,ρ.mem b=some o→ρ2.mem b=some o) (jM: ∀ b o,ρ2.mem b=some o→ρ.mem b=some o∨(B'.mem b=none∧unf o))
  (hren: ∀ id∈h.idsX,∀ e,Jy.ent id=some e→ ∃ e',e.ren (h.tau σ s)=some e'):
  ∃ ρ':Nm,Ext B s.used ρ ρ'∧(∀ id∈h.idsX,∀ k,h.tau σ s id=some k→ρ' k=ρ2 id∧bk s.used (h.fresh s) k=true)∧
   Hp B ρ' (aZ s.ent (GZ h (h.tau σ s) σ (fun k=>isD (s.ent k)) Jy h.idsX)) (bk s.used (h.fresh s)) w':=by
 have hσ: ∀ id∈h.ids,∃ k e,σ id=some k∧s.ent k=some e:=fun id jy=>by
  obtain⟨e,he⟩:=hf0.hsome id (Li jy)
  obtain⟨k,e',h1,h2,_⟩:=hx.ent id e he
  exact⟨k,e',h1,h2⟩
 let ρ':Nm:=⟨fun k=>bif s.used k then ρ.nm k else match PG (h.fresh s) k with | some i=>(match h.out[i]? with | some id=>ρ2.nm id | none=> .nilFunc) | none=> .nilFunc,ρ2.mem,
  fun k=>match look? (GZ h (h.tau σ s) σ (fun k=>isD (s.ent k)) Jy h.idsX) k with | some _=>(if hh: ∃ id,id∈h.idsX∧h.tau σ s id=some k then ρ2.fp (Classical.choose hh)else ρ.fp k) | none=>ρ.fp k⟩
 have hold': ∀ k,s.used k=true→ρ' k=ρ k:=fun k hk=>by simp only [Nm.of,ρ',hk,cond_true]
 have hτ: ∀ id∈h.idsX,∀ k,h.tau σ s id=some k→ρ' k=ρ2 id∧bk s.used (h.fresh s) k=true:=by
  intro id jy k hk
  unfold Shape.tau at hk
  cases hm:memN h.fx id with
  |true=>
   simp only [hm,cond_true]at hk
   obtain⟨k',e,h1,h2⟩:=hσ id (List.mem_append_left _ (SX.memN_mem.1 hm))
   rw [hk]at h1;cases h1
   have hu:=(hp.he k e h2).2.1
   exact⟨by rw [hold' k hu,Ff id (SX.memN_mem.1 hm) k hk],ic _ hu⟩
  |false=>
   simp only [hm,cond_false]at hk
   split at hk
   ·rename_i i hi
    have hkm:=List.mem_of_getElem? hk
    have hu:=hfresh k hkm
    obtain⟨i',hi'⟩:=aaw hkm
    have:i'=i:=aaO (BA hi') hk
    subst this
    refine⟨?_,vM hkm⟩
    simp only [Nm.of,ρ',hu,cond_false,hi',BA hi]
   ·cases hk
 have hτinj: ∀ id∈h.idsX,∀ id'∈h.idsX,∀ k,h.tau σ s id=some k→h.tau σ s id'=some k→id=id':=by
  have side: ∀ id∈h.idsX,∀ k,h.tau σ s id=some k→(σ id=some k∧s.used k=true)∨(s.used k=false∧ ∃ i:Nat,h.out[i]? =some id∧(h.fresh s)[i]? =some k):=by
   intro id jy k hk
   unfold Shape.tau at hk
   cases hm:memN h.fx id with
   |true=>
    simp only [hm,cond_true]at hk
    obtain⟨k',e,h1,h2⟩:=hσ id (List.mem_append_left _ (SX.memN_mem.1 hm))
    rw [hk]at h1;cases h1
    exact .inl ⟨hk,(hp.he k e h2).2.1⟩
   |false=>
    simp only [hm,cond_false]at hk
    split at hk
    ·rename_i i hi
     exact .inr ⟨hfresh k (List.mem_of_getElem? hk),i,BA hi,hk⟩
    ·cases hk
  intro id jy id' hid' k hk hk'
  rcases side id jy k hk with⟨a1,a2⟩ | ⟨a1,i,a2,a3⟩ <;> rcases side id' hid' k hk' with⟨b1,b2⟩ | ⟨b1,j,b2,b3⟩
  ·exact hx.inj id id' k a1 b1
  ·rw [a2]at b1;cases b1
  ·rw [b2]at a1;cases a1
  ·have:=aaO a3 b3
   subst this
   rw [a2]at b2;exact Option.some.inj b2
 have hfpk: ∀ id∈h.idsX,∀ k e,h.tau σ s id=some k→look? (GZ h (h.tau σ s) σ (fun k=>isD (s.ent k)) Jy h.idsX) k=some e→ρ'.fp k=ρ2.fp id:=by
  intro id jy k e hk hl
  have hh: ∃ id,id∈h.idsX∧h.tau σ s id=some k:=⟨id,jy,hk⟩
  show (match look? (GZ h (h.tau σ s) σ (fun k=>isD (s.ent k)) Jy h.idsX) k with | some _=>(if hh: ∃ id,id∈h.idsX∧h.tau σ s id=some k then ρ2.fp (Classical.choose hh)else ρ.fp k) | none=>ρ.fp k)=_
  rw [hl]
  simp only [dif_pos hh]
  rw [hτinj _ (Classical.choose_spec hh).1 id jy k (Classical.choose_spec hh).2 hk]
 have Gu: ∀ b,abG s.ent ρ (h.ids.filterMap σ) b→Was s.ent ρ (GZ h (h.tau σ s) σ (fun k=>isD (s.ent k)) Jy h.idsX) b:=by
  rintro b ⟨k,hk,e,he,hb⟩
  obtain⟨id,jy,hks⟩:=List.mem_filterMap.1 hk
  have: ∃ e',look? (GZ h (h.tau σ s) σ (fun k=>isD (s.ent k)) Jy h.idsX) k=some e':=by
   refine ZZ ?_
   rcases w7.1 jy with hf | hr
   ·right
    have hidx:id∈h.idsX:=List.mem_append_left _ hf
    obtain⟨e0,he0⟩:=hfy.hsome id hf
    obtain⟨e',he'⟩:=hren id hidx e0 he0
    exact⟨id,hidx,e0,e',by simp only [Shape.tau,Li hf,cond_true];exact hks,he0,he'⟩
   ·refine .inl ⟨⟨id,hr,hks⟩,?_⟩
    rw [he]
    cases e with
    |box T cs=>rfl
    |row own e1 t xs=>cases own with
     |true=>rfl
     |false=>simp [Entry.ob]at hb
    |tree e1 t xs ho=>rfl
    |wk e1 t xs=>rfl
    |mp ks=>rfl
    |gone=>rfl
  obtain⟨e',he'⟩:=this
  exact⟨k,e,e',he,hb,he'⟩
 have hBnone: ∀ b,B'.mem b=none→B.mem b=none:=fun b hb=>by
  rw [Bp]at hb
  rcases Lh hb with⟨i,_,e,he,hb⟩ | hge
  ·exact(Entry.ob_lt (hp.he i e he).1 hb).2.1
  ·cases hm:B.mem b with
   |none=>rfl
   |some o=>have:=(Array.getElem?_eq_some_iff.1 (hp.hf.mem _ _ hm)).1;omega
 have QE: ∀ k e,look? (GZ h (h.tau σ s) σ (fun k=>isD (s.ent k)) Jy h.idsX) k=some e→(∃ id∈h.idsX,∃ e0,h.tau σ s id=some k∧Jy.ent id=some e0∧e0.ren (h.tau σ s)=some e∧ρ'.fp k=ρ2.fp id∧e.ob ρ' k=e0.ob ρ2 id)∨(e= .gone∧s.used k=true):=by
  intro k e hl
  rcases adw hl with⟨id,jy,e0,h1,h2,h3⟩ | ⟨⟨id,jy,h1⟩,h2⟩
  ·have hq:=(hτ id jy k h1).1
   have hf:=hfpk id jy k e h1 hl
   refine .inl ⟨id,jy,e0,h1,h2,h3,hf,?_⟩
   cases e0 with
   |box T cs=>simp only [Entry.ren,q9]at h3;obtain⟨cs',_,rfl⟩:=h3;simp only [Entry.ob,hq]
   |row own e t xs=>simp only [Entry.ren,w3]at h3;subst h3;exact aaz hq
   |tree e t xs ho=>
    cases ho with
    |none=>simp only [Entry.ren,w3]at h3;subst h3;simp only [Entry.ob,hq,hf]
    |some q=>simp only [Entry.ren,q9]at h3;obtain⟨cs',_,rfl⟩:=h3;simp only [Entry.ob,hq,hf]
   |wk e t xs=>simp only [Entry.ren,w3]at h3;subst h3;simp only [Entry.ob,hq]
   |mp ks=>simp only [Entry.ren,w3]at h3;subst h3;simp only [Entry.ob,hq]
   |gone=>simp only [Entry.ren,w3]at h3;subst h3;rfl
  ·obtain⟨k',e',h3,h4⟩:=hσ id (w6 _ jy)
   rw [h1]at h3;cases h3
   exact .inr ⟨h2,(hp.he k e' h4).2.1⟩
 have hUJ: ∀ i,Jy.used i=true→i∈h.idsX:=hfy.hused
 have Th:Chg w w' (abG s.ent ρ (h.ids.filterMap σ)):=by
  have hf:=hMy.hf
  refine⟨by rw [← hw0];exact hf.os,by rw [← hw0];exact hf.tape,by rw [← hw0];exact hf.output,by rw [← hw0];exact hf.size,fun k hk hX=> ?_⟩
  have:memBig w s.ent ρ (h.ids.filterMap σ) k=w.heap[k]? :=by unfold memBig;rw [if_neg hX]
  rw [Array.getElem?_eq_getElem hk]at this ⊢
  exact hf.mem k _ (by rw [Bp];exact this)
 have key:=hp.chg (ρ':=ρ') (es:=GZ h (h.tau σ s) σ (fun k=>isD (s.ent k)) Jy h.idsX) (new:=h.fresh s) Th hold' hold Gu
  (fun b o hb=>(jM b o hb).imp (fun h=>h) fun hb'=>⟨hMy.hf.dat b o hb,hb'.2,(Lh (by rw [← Bp];exact hb'.1)).symm.imp (fun h=>h) (Gu b)⟩)
  (fun k e hl=>by
   rcases QE k e hl with⟨id,jy,e0,h1,h2,h3,hf0,_⟩ | ⟨rfl,hu⟩
   ·obtain⟨g1,_,g3⟩:=hMy.he id e0 h2
    obtain⟨q1,q2⟩:=hτ id jy k h1
    have hc: ∀ i j,Jy.used i=true→h.tau σ s i=some j→ρ' j=ρ2 i:=fun i j hi hj=>(hτ i (hUJ i hi) j hj).1
    refine⟨?_,q2,?_⟩
    ·cases e0 with
     |box T cs=>
      simp only [Entry.ren,q9]at h3
      obtain⟨cs',Jr,rfl⟩:=h3
      obtain⟨b,k1,k2,k3,k4⟩:=g1
      refine⟨b,by rw [q1];exact k1,?_,hBnone b k3,k4⟩
      rw [Fj Jr fun x hx y hy=>Cell.ren_conc hc (g3 x hx) hy]
      exact k2
     |row own e1 t xs=>
      simp only [Entry.ren,w3]at h3;subst h3
      cases own with
      |false=>simp only [Entry.holds];rw [q1];exact g1
      |true=>
       obtain⟨cs,k1,k2,k3⟩:=g1
       simp only [Entry.holds];rw [q1]
       exact⟨cs,k1,k2,fun b hb=>⟨hBnone b (k3 b hb).1,(k3 b hb).2⟩⟩
     |tree e1 t xs ho=>exact(Qf (U:=Jy.used) g1 h3 q1 hf0 (fun b hb=>⟨hBnone b (Entry.ob_lt g1 hb).2.1,(Entry.ob_lt g1 hb).2.2⟩) g3 hc).1
     |wk e1 t xs=>
      simp only [Entry.ren,w3]at h3;subst h3
      obtain⟨k1,k2,k3⟩:=g1
      simp only [Entry.holds];rw [q1]
      exact⟨k1,k2,fun b hb=>⟨hBnone b (k3 b hb).1,(k3 b hb).2⟩⟩
     |mp ks=>
      simp only [Entry.ren,w3]at h3;subst h3
      obtain⟨b,es,cl,k1,k2,k3,k4,k5⟩:=g1
      exact⟨b,es,cl,by rw [q1];exact k1,k2,k3,hBnone b k4,k5⟩
     |gone=>simp only [Entry.ren,w3]at h3;subst h3;trivial
    ·cases e0 with
     |box T cs=>
      simp only [Entry.ren,q9]at h3
      obtain⟨cs',Jr,rfl⟩:=h3
      refine zQ Jr fun x hx y hy=> ?_
      have hxu:=SX.ids_inU (g3 x hx)
      cases x with
      |val v=>simp [Cell.ren]at hy;subst hy;trivial
      |ptr i off=>simp only [Cell.ren,q9]at hy;obtain⟨j,hj,rfl⟩:=hy;exact(hτ i (hUJ i (hxu i (by simp [Cell.ids]))) j hj).2
      |ref i=>simp only [Cell.ren,q9]at hy;obtain⟨j,hj,rfl⟩:=hy;exact(hτ i (hUJ i (hxu i (by simp [Cell.ids]))) j hj).2
      |el i z q off=>simp only [Cell.ren,q9]at hy;obtain⟨j,hj,rfl⟩:=hy;exact(hτ i (hUJ i (hxu i (by simp [Cell.ids]))) j hj).2
      |vw i z q=>simp only [Cell.ren,q9]at hy;obtain⟨j,hj,rfl⟩:=hy;exact(hτ i (hUJ i (hxu i (by simp [Cell.ids]))) j hj).2
      |clo f caps=>
       simp only [Cell.ren,q9]at hy
       obtain⟨js,hj,rfl⟩:=hy
       exact zQ hj fun i hi j Yk=>(hτ i (hUJ i (hxu i hi)) j Yk).2
      |bnd f vs=>
       simp only [Cell.ren,q9]at hy
       obtain⟨js,hj,rfl⟩:=hy
       exact Sn hj fun i hi j Yk=>(hτ i (hUJ i (hxu i hi)) j Yk).2
     |row own e1 t xs=>simp only [Entry.ren,w3]at h3;subst h3;trivial
     |tree e1 t xs ho=>
      cases ho with
      |none=>simp only [Entry.ren,w3]at h3;subst h3;trivial
      |some q=>
      simp only [Entry.ren,q9]at h3
      obtain⟨cs',Jr,rfl⟩:=h3
      refine zQ Jr fun x hx y hy=> ?_
      have hxu:=SX.ids_inU (g3 x hx)
      cases x with
      |val v=>simp [Cell.ren]at hy;subst hy;trivial
      |ptr i off=>simp only [Cell.ren,q9]at hy;obtain⟨j,hj,rfl⟩:=hy;exact(hτ i (hUJ i (hxu i (by simp [Cell.ids]))) j hj).2
      |ref i=>simp only [Cell.ren,q9]at hy;obtain⟨j,hj,rfl⟩:=hy;exact(hτ i (hUJ i (hxu i (by simp [Cell.ids]))) j hj).2
      |el i z q off=>simp only [Cell.ren,q9]at hy;obtain⟨j,hj,rfl⟩:=hy;exact(hτ i (hUJ i (hxu i (by simp [Cell.ids]))) j hj).2
      |vw i z q=>simp only [Cell.ren,q9]at hy;obtain⟨j,hj,rfl⟩:=hy;exact(hτ i (hUJ i (hxu i (by simp [Cell.ids]))) j hj).2
      |clo f caps=>
       simp only [Cell.ren,q9]at hy
       obtain⟨js,hj,rfl⟩:=hy
       exact zQ hj fun i hi j Yk=>(hτ i (hUJ i (hxu i hi)) j Yk).2
      |bnd f vs=>
       simp only [Cell.ren,q9]at hy
       obtain⟨js,hj,rfl⟩:=hy
       exact Sn hj fun i hi j Yk=>(hτ i (hUJ i (hxu i hi)) j Yk).2
     |wk e1 t xs=>simp only [Entry.ren,w3]at h3;subst h3;trivial
     |mp ks=>simp only [Entry.ren,w3]at h3;subst h3;trivial
     |gone=>simp only [Entry.ren,w3]at h3;subst h3;trivial
   ·exact⟨trivial,ic _ hu,trivial⟩)
  (fun k e b hl hb=>by
   rcases QE k e hl with⟨id,jy,e0,h1,h2,h3,_,h4⟩ | ⟨rfl,_⟩
   ·rw [h4]at hb
    have:=(Entry.ob_lt (hMy.he id e0 h2).1 hb).2.1
    rw [Bp]at this
    exact(Lh this).symm.imp (fun h=>h) (Gu b)
   ·simp [Entry.ob]at hb)
  (fun k k' e e' b hl hl' hb hb'=>by
   rcases QE k e hl with⟨id,jy,e0,h1,h2,h3,_,h4⟩ | ⟨rfl,_⟩
   ·rcases QE k' e' hl' with⟨id',hid',e0',h1',h2',h3',_,h4'⟩ | ⟨rfl,_⟩
    ·rw [h4]at hb;rw [h4']at hb'
     have:=hMy.hi id id' e0 e0' b h2 h2' hb hb'
     subst this
     rw [h1]at h1';exact Option.some.inj h1'
    ·simp [Entry.ob]at hb'
   ·simp [Entry.ob]at hb)
  (fun k _ hl=>by
   show (match look? (GZ h (h.tau σ s) σ (fun k=>isD (s.ent k)) Jy h.idsX) k with | some _=>(if hh: ∃ id,id∈h.idsX∧h.tau σ s id=some k then ρ2.fp (Classical.choose hh)else ρ.fp k) | none=>ρ.fp k)=_
   rw [hl])
 exact⟨ρ',key.1,hτ,key.2⟩
end
end Go.SX
namespace Go.SX
open Go.RowKit
section
variable{P:Program}{tbl:List (PF P)}{s s' t:St}{W:Nat→Bool}{lf:List (St→R)}{B:Base}{ρ:Nm}{a:Act}{w:World}{post post':Ex→St→Prop}{σ:Nat→Option Nat}
theorem VR{α β:Type}{f:α→Option β}: ∀ {l:List α},(∀ x∈l,∃ y,f x=some y)→ ∃ r,tW f l=some r
 | [],_=>⟨[],rfl⟩
 |a::l,h=>by
  obtain⟨y,hy⟩:=h a (by simp)
  obtain⟨r,hr⟩:=VR (l:=l) fun x hx=>h x (by simp [hx])
  exact⟨y::r,by simp [tW,hy,hr]⟩
theorem Cell.ren_some{f:Nat→Option Nat}{c:Cell}(h: ∀ i∈c.ids,∃ j,f i=some j): ∃ c',c.ren f=some c':=by
 cases c with
 |val v=>exact⟨_,rfl⟩
 |ptr id off=>obtain⟨j,hj⟩:=h id (by simp [Cell.ids]);exact⟨_,by simp [Cell.ren,hj];rfl⟩
 |ref id=>obtain⟨j,hj⟩:=h id (by simp [Cell.ids]);exact⟨_,by simp [Cell.ren,hj];rfl⟩
 |el id z i off=>obtain⟨j,hj⟩:=h id (by simp [Cell.ids]);exact⟨_,by simp [Cell.ren,hj];rfl⟩
 |vw id z k=>obtain⟨j,hj⟩:=h id (by simp [Cell.ids]);exact⟨_,by simp [Cell.ren,hj];rfl⟩
 |clo k caps=>obtain⟨js,hj⟩:=VR (f:=f) (l:=caps) h;exact⟨_,by simp [Cell.ren,hj];rfl⟩
 |bnd k vs=>obtain⟨js,hj⟩:=aay (f:=f) (vs:=vs) h;exact⟨_,by simp [Cell.ren,hj];rfl⟩
theorem Entry.ren_some{f:Nat→Option Nat}{e:Entry}{U:Nat→Bool}(hU:e.inU U)(h: ∀ i,U i=true→ ∃ j,f i=some j): ∃ e',e.ren f=some e':=by
 cases e with
 |box T cs=>
  obtain⟨r,hr⟩:=VR (f:=Cell.ren f) (l:=cs) fun c hc=>Cell.ren_some fun i hi=>h i (SX.ids_inU (hU c hc) i hi)
  exact⟨_,by simp [Entry.ren,hr];rfl⟩
 |row own e t xs=>exact⟨_,rfl⟩
 |tree e t xs ho=>
  cases ho with
  |none=>exact⟨_,rfl⟩
  |some q=>
   obtain⟨r,hr⟩:=VR (f:=Cell.ren f) (l:=q.2) fun c hc=>Cell.ren_some fun i hi=>h i (SX.ids_inU (hU c hc) i hi)
   exact⟨_,by simp [Entry.ren,hr];rfl⟩
 |wk e t xs=>exact⟨_,rfl⟩
 |mp ks=>exact⟨_,rfl⟩
 |gone=>exact⟨_,rfl⟩
theorem Cell.ren_inU'{f:Nat→Option Nat}{U U':Nat→Bool}(hf: ∀ i j,U i=true→f i=some j→U' j=true){c c':Cell}(hc:c.inU U)(h:c.ren f=some c'):c'.inU U':=by
 cases c with
 |val v=>simp [Cell.ren]at h;subst h;trivial
 |ptr id off=>simp only [Cell.ren,q9]at h;obtain⟨j,hj,rfl⟩:=h;exact hf id j hc hj
 |ref id=>simp only [Cell.ren,q9]at h;obtain⟨j,hj,rfl⟩:=h;exact hf id j hc hj
 |el id z i off=>simp only [Cell.ren,q9]at h;obtain⟨j,hj,rfl⟩:=h;exact hf id j hc hj
 |vw id z k=>simp only [Cell.ren,q9]at h;obtain⟨j,hj,rfl⟩:=h;exact hf id j hc hj
 |clo k caps=>
  simp only [Cell.ren,q9]at h
  obtain⟨js,hj,rfl⟩:=h
  exact zQ hj fun x hx y hy=>hf x y (hc x hx) hy
 |bnd k vs=>
  simp only [Cell.ren,q9]at h
  obtain⟨js,hj,rfl⟩:=h
  exact Sn hj fun i hi j Yk=>hf i j (hc i hi) Yk
theorem SV.ren_inU'{f:Nat→Option Nat}{U U':Nat→Bool}(hf: ∀ i j,U i=true→f i=some j→U' j=true){v v':SV}(hc:v.inU U)(h:v.ren f=some v'):v'.inU U':=by
 have key: ∀ {v v':V1},v.inU U→v.ren f=some v'→v'.inU U':=by
  intro v v' hc h
  simp only [V1.ren,q9]at h
  obtain⟨cs,Jr,rfl⟩:=h
  exact zQ Jr fun x hx y hy=>Cell.ren_inU' hf (hc x hx) hy
 cases v with
 |one v=>
  simp only [SV.ren,q9]at h
  obtain⟨u,hu,rfl⟩:=h
  exact key hc hu
 |tup vs=>
  simp only [SV.ren,q9]at h
  obtain⟨us,hu,rfl⟩:=h
  exact zQ hu fun x hx y hy=>key (hc x hx) hy
def VJ(s:St):List Nat→List Nat
 | []=> []
 |l::r=>bif Nat.ble 1000000 l then(match s.look (l - 1000000)with
  |some x=>x.v.ids++VJ s r
  |none=>VJ s r)else VJ s r
def akv(l:List Nat)(s:St):St:= { s with ent:=aZ s.ent (FF s.ent (QA s.ent l++VJ s l)) }
theorem ajp{l:List Nat}(hM:Mdl B ρ s a w): ∃ ρ':Nm,Ext B s.used ρ ρ'∧Mdl B ρ' (akv l s) a w:=by
 obtain⟨ρ',n1,f1,x1,h1,_⟩:=Hp.freezeA hM.hp (QA s.ent l++VJ s l)
 refine⟨ρ',x1,hM.hd,hM.hn,fun k x hk=> ?_,hM.hg,hM.hu,h1,hM.hl⟩
 rw [hM.hs k x hk,SS.at_congr (U:=s.used) x1.nm (hM.hu k x hk) (fun _ _ _=>rfl)]
def R.mapS(g:St→St):R→R
 | .none=> .none
 | .done x s=> .done x (g s)
 | .need nd r=> .need nd (r.mapS g)
 | .ite b t e=> .ite b (t.mapS g) (e.mapS g)
theorem R.sat_mapS{g:St→St}: ∀ {r:R},(r.mapS g).sat post→r.sat fun x s=>post x (g s)
 | .none,h=>h
 | .done _ _,h=>h
 | .need _ _,h=>⟨h.1,R.sat_mapS h.2⟩
 | .ite _ _ _,h=>⟨fun hb=>R.sat_mapS (h.1 hb),fun hb=>R.sat_mapS (h.2 hb)⟩
def R.frzB(l:List Nat)(r:R):R:=
 match l with
 | []=>r
 |_::_=>r.mapS (akv l)
theorem ai0{l:List Nat}{c:Code}{r:R}(hu:r.all fun _ s'=> ∀ id,s.used id=true→s'.used id=true)(hr: ∀ post,r.sat post→Sat P B c s post)(h:(r.frzB l).sat post):Sat P B c s post:=by
 cases l with
 |nil=>exact hr _ h
 |cons i l=>
  intro ρ a w hM
  refine wp_mono (hr _ (R.sat_and (R.sat_mapS h) hu) ρ a w hM) fun e a' w' ⟨x,s',ρ1,he,hx,hM',hp,hm⟩=> ?_
  obtain⟨ρ2,x2,h2⟩:=ajp (l:=i::l) hM'
  exact⟨x,akv (i::l) s',ρ2,he,hx.trans x2 hm,h2,hp⟩
theorem Unch.same(s:St):Unch s s:=⟨fun _ _=> .inl rfl,fun _ _=>rfl,fun _ h=>h,fun _ h=>h,fun _ h=>h⟩
theorem LoopOk.mk'(aS:P.follows .mixedOrders=true){b:Code}{h:Shape}{X Y:Type}{J:X→St}{Jx:Ex→Y→St}{lf:List (St→R)}(hD: ∀ k∈h.D,W k=true)
  (hl:LOk P (memN h.D) lf b) (fz:List Nat) (Inv:Nat→X→Prop) (fin:X→Ex→Y→Prop) (hJ: ∀ x,Fits h.ids (J x)) (hJx: ∀ q z,FitsX h (Jx q z))
  (round: ∀ m x,Inv m x→((LB P tbl (memN h.D) lf b (J x)).frzB fz).sat fun r s'=>match r with
   | .normal=> ∃ m' x' σ,m' < m∧Inv m' x'∧(∀ q z,fin x' q z→fin x q z)∧SubR σ (J x') s'∧(∀ id,memN h.fx id=true→σ id=some id)
   |r=> ∃ z σ,fin x r z∧SubR σ (Jx r z) s'∧(∀ id,memN h.fx id=true→σ id=some id))
  (F:St→R) (hF: ∀ s,F s= .none∨ ∃ nd x σ Ro,F s= .need nd Ro∧(Ro.all fun _ s'=>Unch s s')∧SubR σ (J x) s∧(h.fresh s).all (fun i=> !s.used i)=true∧
   ((∀ n∈nd,n=true)→(∃ m,Inv m x)∧ ∀ q z,fin x q z→ ∀ post:Ex→St→Prop,Ro.sat post→post q (acN h σ (Jx q z) s))):
  LoopOk P W F b:=by
 refine⟨fun B s post hBW hp ρ a w hM=> ?_,fun s=> ?_⟩
 ·rcases hF s with h0 | ⟨nd,x,σ,Ro,h0,_,Ua,hfr,dq⟩
  ·rw [h0]at hp;exact hp.elim
  ·rw [h0]at hp
   obtain⟨hn,hp⟩:=hp
   obtain⟨⟨m,hInv⟩,huniq⟩:=dq hn
   have hfresh: ∀ i∈h.fresh s,s.used i=false:=fun i hi=>by simpa using List.all_eq_true.1 hfr i hi
   have hWn: ∀ k,memN h.D k=true→k < B.n:=fun k hk=>(B.hW k (by rw [hBW];exact hD k (SX.memN_mem.1 hk))).1
   let B':Base:=⟨B.n,w,memBig w s.ent ρ (h.ids.filterMap σ),fun k=>bif memN h.D k then none else a.tmps[k]?,memN h.D,fun k hk=>⟨hWn k hk,by simp [hk]⟩⟩
   have hM0:=Ua.mdl hM
   have hownJ: ∀ id e,(J x).ent id=some e→ ∀ bl∈e.ob (XB σ ρ) id,memBig w s.ent ρ (h.ids.filterMap σ) bl=none:=by
    intro id e he bl hb
    obtain⟨k,e',h1,h2,h3,h4,_⟩:=Ua.ent id e he
    refine acl ⟨k,List.mem_filterMap.2 ⟨id,SX.memN_mem.1 (by rw [← (hJ x).hused id];exact h4),h1⟩,e',h2,?_⟩
    cases e with
    |box T cs=>simp only [Entry.ren,q9]at h3;obtain⟨cs',_,rfl⟩:=h3;simp only [Entry.ob,qX h1]at hb ⊢;exact hb
    |row own e t xs=>simp only [Entry.ren,w3]at h3;subst h3;rw [aaz (qX h1)]at hb;exact hb
    |tree e t xs ho=>rw [(adM h3 (hM.he k e' h2).1 (qX h1) (ZD h1) rfl (fun i j Yk=>qX Yk)).2]at hb;exact hb
    |wk e t xs=>simp only [Entry.ren,w3]at h3;subst h3;simp only [Entry.ob,qX h1]at hb ⊢;exact hb
    |mp ks=>simp only [Entry.ren,w3]at h3;subst h3;simp only [Entry.ob,qX h1]at hb ⊢;exact hb
    |gone=>simp only [Entry.ren,w3]at h3;subst h3;exact hb
   have hM':Mdl B' (XB σ ρ) (J x) a w:=by
    refine⟨hM0.hd,hM0.hn,hM0.hs,hM0.hg,hM0.hu,⟨fun id e he=> ?_,hM0.hp.hi,rfl,rfl,rfl,Nat.le_refl _,fun bl o hb=>aaU hb,hM0.hp.hf.dat,hM0.hp.hf.gl⟩,fun k v hv=> ?_⟩
    ·obtain⟨h1,h2,h3⟩:=hM0.he id e he
     refine⟨?_,h2,h3⟩
     have hob:=hownJ id e he
     cases e with
     |box T cs=>
      obtain⟨bl,k1,k2,k3,k4⟩:=h1
      exact⟨bl,k1,k2,hob bl (by simp [Entry.ob,k1,fB]),k4⟩
     |row own e0 t xs=>
      cases own with
      |false=>exact h1
      |true=>
       obtain⟨cs,k1,k2,k3⟩:=h1
       exact⟨cs,k1,k2,fun bl hb=>⟨hob bl hb,(k3 bl hb).2⟩⟩
     |tree e0 t xs ho=>
      obtain⟨cs,Ls,k1,k2,k3,k4,k5⟩:=h1
      exact⟨cs,Ls,k1,k2,k3,k4,fun bl hb=>⟨hob bl hb,(k5 bl hb).2⟩⟩
     |wk e0 t xs=>
      obtain⟨k1,k2,k3⟩:=h1
      exact⟨k1,k2,fun bl hb=>⟨hob bl hb,(k3 bl hb).2⟩⟩
     |mp ks=>
      obtain⟨bl,es,cl,k1,k2,k3,k4,k5⟩:=h1
      exact⟨bl,es,cl,k1,k2,k3,hob bl (by simp [Entry.ob,k1,fB]),k5⟩
     |gone=>trivial
    ·simp only [B']at hv
     cases ho:memN h.D k with
     |true=>simp [ho]at hv
     |false=>simpa [ho] using hv
   have hfxU: ∀ x' id,memN h.fx id=true→(J x').used id=true:=fun x' id jy=>by
    rw [(hJ x').hused id];exact Li (List.mem_append_left _ (SX.memN_mem.1 jy))
   have hloop:=Sat.loop (P:=P) (B:=B') (post:=fun r s'=> ∃ z σ,fin x r z∧SubR σ (Jx r z) s'∧(∀ id,memN h.fx id=true→σ id=some id)) (memN h.fx) (fun m s=> ∃ x',s=J x'∧Inv m x'∧ ∀ q z,fin x' q z→fin x q z)
    (fun m s ⟨x',hs,_,_⟩ id jy=>by rw [hs];exact hfxU x' id jy)
    (fun m s ⟨x',hs,hI,hfin⟩=>by
     subst hs
     refine ai0 (aac lf b (J x') hl) (fun post h=>wx (tbl:=tbl) aS lf b (J x') post hl h) (R.sat_mono (fun r s' hr=> ?_) (round m x' hI))
     cases r with
     |normal=>
      obtain⟨m',x'',σ',gm,hI',hf',hsub',hσ'⟩:=hr
      exact⟨m',J x'',σ',gm,⟨x'',rfl,hI',fun q z hz=>hfin q z (hf' q z hz)⟩,hsub',hσ'⟩
     |exit id=>obtain⟨z,σ',hz,hs⟩:=hr;exact⟨z,σ',hfin _ z hz,hs⟩
     |ret=>obtain⟨z,σ',hz,hs⟩:=hr;exact⟨z,σ',hfin _ z hz,hs⟩)
    m (J x) ⟨x,rfl,hInv,fun _ _ h=>h⟩ hM'
   refine wp_mono hloop fun e a' w' ⟨r,s',ρ1,he,Cr,hM2,y,σ1,hy,hsub2,hσ1⟩=> ?_
   have hpp:=huniq r y hy post hp
   have hMy:=hsub2.mdl hM2
   have htau: ∀ i,(Jx r y).used i=true→ ∃ j,h.tau σ s i=some j:=fun i hi=>by
    have hi:=(hJx r y).hused i hi
    unfold Shape.tau
    cases hm:memN h.fx i with
    |true=>
     obtain⟨e,he⟩:=(hJ x).hsome i (Li (List.mem_append_left _ (SX.memN_mem.1 hm)))
     obtain⟨k,_,h1,_⟩:=Ua.ent i e he
     exact⟨k,by simpa using h1⟩
    |false=>
     simp only [cond_false]
     rcases w7.1 hi with hh | hh
     ·rw [Li hh]at hm;cases hm
     ·obtain⟨j,hj⟩:=aaw hh
      have gm:=(z6.1 (BA hj)).1
      exact⟨_,by simp only [hj];exact Ha gm⟩
   obtain⟨ρ',hx',hτ,hp'⟩:=hM.hp.behind (B':=B') Ua (hJ x) (hJx r y) hfresh rfl rfl hMy.hp
    (fun id jy k hk=>by
     have hmf:=Li jy
     rw [qX (hσ1 id hmf),Cr.nm id hmf,qX hk])
    (fun bl o hb=>Cr.old bl o hb) (fun bl o hb=>Cr.new bl o hb)
    (fun id jy e he=>Entry.ren_some (hMy.he id e he).2.2 htau)
   refine⟨r,acN h σ (Jx r y) s,ρ',he,hx',?_,hpp⟩
   have hslot: ∀ k,memN h.D k=false→ ∀ v,a.tmps[k]? =some v→a'.tmps[k]? =some v:=fun k hk v hv=>
    hM2.hl k v (by simp only [B',hk,cond_false];exact hv)
   have look: ∀ k z,(acN h σ (Jx r y) s).look k=some z→z.g=none∧a'.tmps[k]? =some (z.v.conc ρ')∧z.v.inU (bk s.used (h.fresh s)):=by
    intro k z hz
    simp only [acN]at hz
    cases hk:memN h.D k with
    |true=>
     simp only [hk,cond_true]at hz
     split at hz
     ·rename_i x0 hx0
      simp only [q9]at hz
      obtain⟨v,hv,rfl⟩:=hz
      have hs:=hMy.hs k x0 hx0
      have hu:=hMy.hu k x0 hx0
      refine⟨rfl,?_,?_⟩
      ·rw [hs]
       simp only [SS.at,(hJx r y).hg k x0 hx0]
       rw [SV.ren_conc (U:=(Jx r y).used) (fun i j hi hj=>(hτ i ((hJx r y).hused i hi) j hj).1) hu hv]
      ·refine SV.inU_mono (U:=fun j=>bk s.used (h.fresh s) j) (fun _ h=>h) ?_
       exact SV.ren_inU' (fun i j hi hj=>(hτ i ((hJx r y).hused i hi) j hj).2) hu hv
     ·cases hz
    |false=>
     simp only [hk,cond_false]at hz
     have hMc:=hM.clean
     have hs:=hMc.hs k z hz
     have hg:z.g=none:=by
      simp only [St.clean]at hz
      split at hz
      ·cases hz;rfl
      ·cases hz
     have hu:=hMc.hu k z hz
     refine⟨hg,?_,SV.inU_mono ic hu⟩
     simp only [SS.at,hg]at hs
     rw [SV.conc_congr hx'.nm hu]
     exact hslot k hk _ hs
   refine⟨hM2.hd,hM2.hn,fun k z hz=> ?_,fun k z j bb hz hj=> ?_,fun k z hz=>(look k z hz).2.2,hp',fun k v hv=> ?_⟩
   ·obtain⟨g0,h0,_⟩:=look k z hz
    rw [h0];simp only [SS.at,g0]
   ·rw [(look k z hz).1]at hj;cases hj
   ·refine hslot k ?_ v (hM.hl k v hv)
    cases hk:memN h.D k with
    |false=>rfl
    |true=>
     have:=(B.hW k (by rw [hBW];exact hD k (SX.memN_mem.1 hk))).2
     rw [this]at hv;cases hv
 ·rcases hF s with h0 | ⟨nd,x,σ,Ro,h0,OE,_⟩
  ·rw [h0];trivial
  ·rw [h0];exact OE
end
end Go.SX
namespace Go.SX
open Go.RowKit
def acW(L:List (Nat×SV))(E:List (Nat×Entry))(next:Nat):St:=
 {look:=fun k=>match look? L k with | some v=>some ⟨none,v⟩ | none=>none
  ent:=look? E
  used:=memN (sG E)
  wr:=fun _=>false,next,log:= [],logE:= [] }
inductive RV where
 |none
 |done (x:Ex) (l:List (Option SS)) (e:List (Option Entry))
 |need (nd:List Bool) (r:RV)
 |ite (b:Bool) (t e:RV)
def RV.sat(post:Ex→List (Option SS)→List (Option Entry)→Prop):RV→Prop
 | .none=>False
 | .done x l e=>post x l e
 | .need nd r=>(∀ b∈nd,b=true)∧r.sat post
 | .ite b t e=>(b=true→t.sat post)∧(b=false→e.sat post)
def Entry.inUb(U:Nat→Bool):Entry→Bool
 | .box _ cs=>cs.all (Cell.inUb U)
 | .tree _ _ _ (some (_,cs))=>cs.all (Cell.inUb U)
 |_=>true
theorem Entry.inUb_sound{U:Nat→Bool}{e:Entry}(h:e.inUb U=true):e.inU U:=by
 cases e with
 |box T cs=>
  simp only [Entry.inUb,List.all_eq_true]at h
  exact fun c hc=>Cell.inUb_sound (h c hc)
 |tree e t xs ho=>
  cases ho with
  |none=>trivial
  |some q=>
   simp only [Entry.inUb,List.all_eq_true]at h
   exact fun c hc=>Cell.inUb_sound (h c hc)
 |_=>trivial
theorem look?_get{α:Type}: ∀ {L:List (Nat×α)} {k:Nat} {v:α},look? L k=some v→(k,v)∈L
 | [],_,_,h=>by simp [look?]at h
 |p::r,k,v,h=>by
  simp only [look?]at h
  cases hb:Nat.beq p.1 k with
  |true=>simp [hb]at h;rw [← h,← q8 hb];simp
  |false=>simp [hb]at h;exact List.mem_cons_of_mem _ (look?_get h)
theorem acj{α β:Type}{f g:α→β}: ∀ {L:List α},L.map f=L.map g→ ∀ p∈L,f p=g p
 | [],_,p,hp=>by simp at hp
 |q::r,h,p,hp=>by
  simp only [w8,List.cons.injEq]at h
  rcases List.mem_cons.1 hp with rfl | hp
  ·exact h.1
  ·exact acj h.2 p hp
theorem look?_inj: ∀ {L:List (Nat×Nat)},Vz (L.map (·.2))=true→ ∀ id id' j,look? L id=some j→look? L id'=some j→id=id'
 | [],_,_,_,_,h,_=>by simp [look?]at h
 |p::r,hn,id,id',j,h,h'=>by
  simp only [w8,Vz,w4,Bool.not_eq_true']at hn
  simp only [look?]at h h'
  have out: ∀ k,look? r k=some j→p.2=j→False:=fun k hk e=>by
   have:=List.mem_map_of_mem (f:=fun q:Nat×Nat=>q.2) (look?_get hk)
   simp only at this
   rw [Li (by rw [e];exact this)]at hn
   cases hn.1
  cases hb:Nat.beq p.1 id with
  |true=>
   simp [hb]at h
   cases hb':Nat.beq p.1 id' with
   |true=>exact(q8 hb).symm.trans (q8 hb')
   |false=>simp [hb']at h';exact(out id' h' h).elim
  |false=>
   simp [hb]at h
   cases hb':Nat.beq p.1 id' with
   |true=>simp [hb']at h';exact(out id h h').elim
   |false=>simp [hb']at h';exact look?_inj hn.2 id id' j h h'
theorem ajZ{L:List (Nat×SV)}{E:List (Nat×Entry)}{next:Nat}{s:St}(σL:List (Nat×Nat))(h1:L.map (fun p=>s.look p.1)=L.map (fun p=>(p.2.ren (look? σL)).map (SS.mk none)))
  (h2:E.map (fun p=>(look? σL p.1).bind s.ent)=E.map (fun p=>p.2.ren (look? σL)))
  (hL:L.all (fun p=>(p.2.ren (look? σL)).isSome&&p.2.inUb (memN (sG E)))=true) (hE:E.all (fun p=>(p.2.ren (look? σL)).isSome&&p.2.inUb (memN (sG E)))=true)
  (hn:Vz (σL.map (·.2))=true):SubR (look? σL) (acW L E next) s:=by
 refine⟨fun k x hx=> ?_,fun id e he=> ?_,look?_inj hn⟩
 ·simp only [acW]at hx
  split at hx
  ·rename_i v hv
   cases hx
   have hm:=look?_get hv
   have hq:=acj h1 _ hm
   have ha:=List.all_eq_true.1 hL _ hm
   simp only [w4]at ha
   cases hr:v.ren (look? σL)with
   |none=>rw [hr]at ha;cases ha.1
   |some u=>
    simp only [hr,Option.map_some]at hq
    exact⟨⟨none,u⟩,hq,rfl,rfl,rfl,SV.inUb_sound ha.2⟩
  ·cases hx
 ·have hm:=look?_get he
  have hq:=acj h2 _ hm
  have ha:=List.all_eq_true.1 hE _ hm
  simp only [w4]at ha
  cases hr:e.ren (look? σL)with
  |none=>simp only [hr]at ha;cases ha.1
  |some e'=>
   simp only [hr]at hq
   cases hσ:look? σL id with
   |none=>simp [hσ]at hq
   |some j=>
    simp only [hσ,Option.bind_some]at hq
    exact⟨j,e',rfl,hq,rfl,Li (List.mem_map_of_mem (f:=fun p:Nat×Entry=>p.1) hm),Entry.inUb_sound ha.2⟩
theorem ad1{L:List (Nat×SV)}{E:List (Nat×Entry)}{next:Nat}{ids:List Nat}(hk:sG E=ids):Fits ids (acW L E next):=by
 refine⟨fun id=>by simp only [acW,hk],fun id jy=> ?_,fun id jy=>look?_none (by rw [show E.map (·.1)=ids from hk];exact Pq jy),fun k z hz=> ?_⟩
 ·rw [← hk]at jy
  have hm:=SX.memN_mem.1 jy
  clear jy hk
  induction E with
  |nil=>simp [sG]at hm
  |cons p r ih=>
   simp only [acW,look?]
   cases hb:Nat.beq p.1 id with
   |true=>exact⟨_,rfl⟩
   |false=>
    simp only [sG,w8,List.mem_cons]at hm
    rcases hm with e | hm
    ·subst e;simp at hb
    ·exact ih hm
 ·simp only [acW]at hz
  split at hz
  ·cases hz;rfl
  ·cases hz
theorem ait{L:List (Nat×SV)}{E:List (Nat×Entry)}{next:Nat}{h:Shape}(hk:((sG E).all (memN h.idsX)&&h.fx.all (memN (sG E)))=true):FitsX h (acW L E next):=by
 simp only [w4,List.all_eq_true]at hk
 refine⟨fun id jy=>SX.memN_mem.1 (hk.1 id (SX.memN_mem.1 jy)),fun id jy=>(ad1 (L:=L) (next:=next) rfl).hsome id (hk.2 id jy),(ad1 (E:=E) (ids:=sG E) rfl).hg⟩
def aI(fn:Func)(i:Nat):Code:=((Qe (fn.body.getD .skip))[i]?).getD .skip
theorem LOk.one{P:Program}{W:Nat→Bool}{F:St→R}{c b:Code}(hc:Qe c= [b])(h:LoopOk P W F b):LOk P W [F] c:=
 LOk.of_tops c [F] fun i F' b' hF hb=>by
  rw [hc]at hb
  cases i with
  |zero=>simp at hF hb;subst hF;subst hb;exact h
  |succ i=>simp at hF
end Go.SX
namespace Go.SX
open Go.RowKit
variable{X:Type}
inductive LT (X:Type) where
 |nrm (x:X) (σ:List (Nat×Nat))
 |ext (j:Nat) (σ:List (Nat×Nat))
 |need (nd:List Bool) (t:LT X)
 |ite (b:Bool) (t e:LT X)
def allT:List Bool→Bool
 | []=>true
 |b::r=>bif b then allT r else false
theorem abH: ∀ {l:List Bool},allT l=true→ ∀ b∈l,b=true
 | [],_,b,hb=>by cases hb
 |a::r,h,b,hb=>by
  cases a with
  |false=>cases h
  |true=>
   rcases List.mem_cons.1 hb with rfl | hb
   ·rfl
   ·exact abH (l:=r) h b hb
def LT.go{X Z:Type}(k:X→Option Z)(e:Nat→Option Z):LT X→Option Z
 | .nrm x _=>k x
 | .ext j _=>e j
 | .need nd t=>bif allT nd then t.go k e else none
 | .ite b t u=>bif b then t.go k e else u.go k e
def Ky{X:Type}(lt:X→LT X):Nat→X→Option (Nat×X)
 |0,_=>none
 |n + 1,x=>(lt x).go (Ky lt n) (fun j=>some (j,x))
theorem LT.go_mono{X Z:Type}{k k':X→Option Z}{e:Nat→Option Z}(hk: ∀ x z,k x=some z→k' x=some z): ∀ {t:LT X} {z:Z},t.go k e=some z→t.go k' e=some z
 | .nrm x _,z,h=>hk x z h
 | .ext j _,z,h=>h
 | .need nd t,z,h=>by
  simp only [LT.go]at h ⊢
  cases hn:allT nd with
  |true=>simp only [hn,cond_true]at h ⊢;exact LT.go_mono hk h
  |false=>simp only [hn,cond_false]at h;cases h
 | .ite b t u,z,h=>by
  simp only [LT.go]at h ⊢
  cases b with
  |true=>simp only [cond_true]at h ⊢;exact LT.go_mono hk h
  |false=>simp only [cond_false]at h ⊢;exact LT.go_mono hk h
theorem adG{X:Type}{lt:X→LT X}: ∀ {n:Nat} {x:X} {z:Nat×X},Ky lt n x=some z→Ky lt (n + 1) x=some z
 |0,_,_,h=>by cases h
 |n + 1,x,z,h=>by
  rw [Ky]at h ⊢
  exact LT.go_mono (fun y z hy=>adG (n:=n) hy) h
theorem aaA{X:Type}{lt:X→LT X}{n m:Nat}{x:X}{z:Nat×X}(Ff:n≤m)(h:Ky lt n x=some z):Ky lt m x=some z:=by
 induction Ff with
 |refl=>exact h
 |step _ ih=>exact adG ih
theorem adH{X:Type}{lt:X→LT X}{n m:Nat}{x:X}{z z':Nat×X}(h:Ky lt n x=some z)(h':Ky lt m x=some z'):z=z':=by
 have h1:=aaA (Nat.le_max_left n m) h
 have h2:=aaA (Nat.le_max_right n m) h'
 rw [h1]at h2
 exact Option.some.inj h2
def LT.each(Q:X→Prop):LT X→Prop
 | .nrm y _=>Q y
 | .ext _ _=>True
 | .need _ t=>t.each Q
 | .ite _ t e=>t.each Q∧e.each Q
theorem LT.go_each{Z:Type}{Q:X→Prop}{k:X→Option Z}{e:Nat→Option Z}: ∀ {t:LT X} {z:Z},t.each Q→t.go k e=some z→(∃ y,Q y∧k y=some z)∨ ∃ j,e j=some z
 | .nrm y _,z,h,hg=> .inl ⟨y,h,hg⟩
 | .ext j _,z,_,hg=> .inr ⟨j,hg⟩
 | .need nd t,z,h,hg=>by
  simp only [LT.go]at hg
  cases hn:allT nd with
  |true=>rw [hn]at hg;exact LT.go_each (t:=t) h hg
  |false=>rw [hn]at hg;cases hg
 | .ite b t u,z,h,hg=>by
  simp only [LT.go]at hg
  cases b with
  |true=>exact LT.go_each (t:=t) h.1 hg
  |false=>exact LT.go_each (t:=u) h.2 hg
theorem afq{lt:X→LT X}{fix:X→X→X}(h0: ∀ z,fix z z=z)(h1: ∀ x z,(lt x).each fun y=>fix x z=fix y z): ∀ {n:Nat} {x:X} {z:Nat×X},Ky lt n x=some z→fix x z.2=z.2
 |0,_,_,h=>by cases h
 |n + 1,x,z,h=>by
  rw [Ky]at h
  rcases LT.go_each (h1 x z.2) h with⟨y,hy,hz⟩ | ⟨j,hj⟩
  ·rw [hy];exact afq h0 h1 hz
  ·cases hj;exact h0 x
structure Lp (X:Type) where
 h:Shape
 JL:X→List (Nat×SV)
 JE:X→List (Nat×Entry)
 XL:Nat→X→List (Nat×SV)
 XE:Nat→X→List (Nat×Entry)
 q:Nat→Ex
 tags:List Nat
 lt:X→LT X
 fuel:X→Nat
 fix:X→X→X
 σ:List (Nat×Nat)
 rd:St→Option X
 fz:List Nat:= []
def aev(s:St)(L:List (Nat×SV)):List (Option SS):=L.map fun p=>s.look p.1
def aeu(σ:List (Nat×Nat))(s:St)(E:List (Nat×Entry)):List (Option Entry):=E.map fun p=>(look? σ p.1).bind s.ent
def afl(σ:List (Nat×Nat))(L:List (Nat×SV)):List (Option SS):=L.map fun p=>(p.2.ren (look? σ)).map (SS.mk none)
def aa3(σ:List (Nat×Nat))(E:List (Nat×Entry)):List (Option Entry):=E.map fun p=>p.2.ren (look? σ)
def Lp.absL(p:Lp X)(x:X):R→LT X→RV
 | .done q s,.nrm y σ=> .done q (aev s (p.JL y)) (aeu σ s (p.JE y))
 | .done q s,.ext j σ=> .done q (aev s (p.XL j x)) (aeu σ s (p.XE j x))
 | .need nd r,.need _ t=> .need nd (p.absL x r t)
 | .ite b t e,.ite _ t' e'=> .ite b (p.absL x t t') (p.absL x e e')
 |_,_=> .none
def Lp.absR(p:Lp X)(x:X):LT X→RV
 | .nrm y σ=> .done .normal (afl σ (p.JL y)) (aa3 σ (p.JE y))
 | .ext j σ=> .done (p.q j) (afl σ (p.XL j x)) (aa3 σ (p.XE j x))
 | .need nd t=> .need nd (p.absR x t)
 | .ite b t e=> .ite b (p.absR x t) (p.absR x e)
def afd(σ:List (Nat×Nat))(L:List (Nat×SV))(E:List (Nat×Entry)):Bool:=
 L.all (fun p=>(p.2.ren (look? σ)).isSome&&p.2.inUb (memN (sG E)))&&E.all (fun p=>(p.2.ren (look? σ)).isSome&&p.2.inUb (memN (sG E)))&&Vz (σ.map (·.2))
def aiB(σ:List (Nat×Nat))(l:List Nat):Bool:=l.all fun i=>match look? σ i with | some j=>Nat.beq i j | none=>false
def Ex.isEnd:Ex→Bool
 | .normal=>false
 |_=>true
def Lp.okL(p:Lp X)(x:X):LT X→Bool
 | .nrm y σ=>afd σ (p.JL y) (p.JE y)&&aiB σ p.h.fx
 | .ext j σ=>afd σ (p.XL j x) (p.XE j x)&&aiB σ p.h.fx&&memN p.tags j&&(p.q j).isEnd
 | .need _ t=>p.okL x t
 | .ite _ t e=>p.okL x t&&p.okL x e
def Lp.J(p:Lp X)(x:X):St:=acW (p.JL x) (p.JE x) 1
def Lp.Jx(p:Lp X)(z:Nat×X):St:=acW (p.XL z.1 z.2) (p.XE z.1 z.2) 1
theorem aao{σ:List (Nat×Nat)}{L:List (Nat×SV)}{E:List (Nat×Entry)}{s:St}(ho:afd σ L E=true)(h1:aev s L=afl σ L)(h2:aeu σ s E=aa3 σ E):SubR (look? σ) (acW L E 1) s:=by
 simp only [afd,w4]at ho
 exact ajZ σ h1 h2 ho.1.1 ho.1.2 ho.2
theorem ae0{σ:List (Nat×Nat)}{l:List Nat}(h:aiB σ l=true): ∀ id,memN l id=true→look? σ id=some id:=by
 intro id jy
 have:=List.all_eq_true.1 h id (SX.memN_mem.1 jy)
 split at this
 ·rename_i j hj
  rw [hj,q8 this]
 ·cases this
theorem Lp.round(p:Lp X){x:X}{Z:Type}{k:X→Option Z}{e:Nat→Option Z}: ∀ {t:LT X} {r:R},p.absL x r t=p.absR x t→p.okL x t=true→(t.go k e).isSome=true→
  r.sat fun q s'=>match q with
   | .normal=> ∃ y σ,t.go k e=k y∧SubR (look? σ) (p.J y) s'∧ ∀ id,memN p.h.fx id=true→look? σ id=some id
   |q=> ∃ j σ,t.go k e=e j∧q=p.q j∧memN p.tags j=true∧SubR (look? σ) (p.Jx (j,x)) s'∧ ∀ id,memN p.h.fx id=true→look? σ id=some id
 | .nrm y σ,r,h,ho,_=>by
  cases r with
  |done q s=>
   simp only [Lp.absL,Lp.absR,RV.done.injEq]at h
   obtain⟨h0,h1,h2⟩:=h
   subst h0
   simp only [Lp.okL,w4]at ho
   exact⟨y,σ,rfl,aao ho.1 h1 h2,ae0 ho.2⟩
  |none=>simp [Lp.absL,Lp.absR]at h
  |need nd r=>simp [Lp.absL,Lp.absR]at h
  |ite b t e=>simp [Lp.absL,Lp.absR]at h
 | .ext j σ,r,h,ho,_=>by
  cases r with
  |done q s=>
   simp only [Lp.absL,Lp.absR,RV.done.injEq]at h
   obtain⟨h0,h1,h2⟩:=h
   simp only [Lp.okL,w4]at ho
   have hx:=aao ho.1.1.1 h1 h2
   have hk:=ae0 ho.1.1.2
   subst h0
   simp only [R.sat]
   have ht:=ho.1.2
   have he:=ho.2
   cases hq:p.q j with
   |normal=>rw [hq]at he;cases he
   |exit i=>exact⟨j,σ,rfl,hq.symm,ht,hx,hk⟩
   |ret=>exact⟨j,σ,rfl,hq.symm,ht,hx,hk⟩
  |none=>simp [Lp.absL,Lp.absR]at h
  |need nd r=>simp [Lp.absL,Lp.absR]at h
  |ite b t e=>simp [Lp.absL,Lp.absR]at h
 | .need nd t,r,h,ho,hs=>by
  cases r with
  |need nd' r=>
   simp only [Lp.absL,Lp.absR,RV.need.injEq]at h
   obtain⟨rfl,h⟩:=h
   simp only [LT.go]at hs
   cases hn:allT nd' with
   |false=>rw [hn]at hs;cases hs
   |true=>
    rw [hn]at hs
    simp only [LT.go,hn,cond_true]at hs ⊢
    exact⟨abH hn,Lp.round p (t:=t) h ho hs⟩
  |none=>simp [Lp.absL,Lp.absR]at h
  |done q s=>simp [Lp.absL,Lp.absR]at h
  |ite b t e=>simp [Lp.absL,Lp.absR]at h
 | .ite b t u,r,h,ho,hs=>by
  cases r with
  |ite b' t' u'=>
   simp only [Lp.absL,Lp.absR,RV.ite.injEq]at h
   obtain⟨rfl,h1,h2⟩:=h
   simp only [Lp.okL,w4]at ho
   refine⟨fun hb=> ?_,fun hb=> ?_⟩
   ·subst hb
    exact Lp.round p (t:=t) h1 ho.1 hs
   ·subst hb
    exact Lp.round p (t:=u) h2 ho.2 hs
  |none=>simp [Lp.absL,Lp.absR]at h
  |done q s=>simp [Lp.absL,Lp.absR]at h
  |need nd r=>simp [Lp.absL,Lp.absR]at h
def big(n:Nat):Nat:=bif Nat.ble n 4294967296 then(n + 1000) ^ 4 else(n + 1000) ^ 4
theorem ah7(n:Nat):big n=(n + 1000) ^ 4:=Bool.cond_self _ _
theorem acb{m n:Nat}(h:m≤n + 1000):m≤big n:=by
 rw [ah7]
 exact Nat.le_trans h (Nat.le_self_pow (by decide) _)
def Lp.res(p:Lp X)(x:X):Nat×X:=(Ky p.lt (big (p.fuel x)) x).getD (0,x)
def Lp.fin(p:Lp X)(x:X):Bool:=(Ky p.lt (big (p.fuel x)) x).isSome
theorem Lp.run(p:Lp X){m:Nat}{x:X}{z:Nat×X}(h:Ky p.lt m x=some z)(hm:m≤big (p.fuel x)):p.fin x=true∧p.res x=z:=by
 have:=aaA hm h
 exact⟨by unfold Lp.fin;rw [this];rfl,by unfold Lp.res;rw [this];rfl⟩
theorem Lp.fin_ex(p:Lp X){x:X}(h:p.fin x=true):Ky p.lt (big (p.fuel x)) x=some (p.res x):=by
 unfold Lp.fin at h
 obtain⟨z,hz⟩:=Option.isSome_iff_exists.1 h
 unfold Lp.res
 rw [hz];rfl
def Lp.ends(p:Lp X)(s:St)(z:Nat×X):List Nat→R
 | []=> .none
 |j::r=>match r with
  | []=> .done (p.q j) (acN p.h (look? p.σ) (p.Jx (j,z.2)) s)
  |_::_=> .ite (Nat.beq z.1 j) (.done (p.q j) (acN p.h (look? p.σ) (p.Jx (j,z.2)) s)) (p.ends s z r)
def Lp.F(p:Lp X)(s:St):R:=
 match p.rd s with
 |some x=>bif(p.h.fresh s).all (fun i=> !s.used i)then .need [p.fin x] (p.ends s ((p.res x).1,p.fix x (p.res x).2) p.tags)else .none
 |none=> .none
theorem Lp.ends_unch(p:Lp X){s:St}{z:Nat×X}: ∀ {l:List Nat},(p.ends s z l).all fun _ s'=>Unch s s'
 | []=>trivial
 | [_]=>adi _ _ _ _
 |_::_::_=>⟨adi _ _ _ _,Lp.ends_unch p⟩
theorem Lp.ends_sat(p:Lp X){s:St}{z:Nat×X}{post:Ex→St→Prop}: ∀ {l:List Nat},memN l z.1=true→(p.ends s z l).sat post→post (p.q z.1) (acN p.h (look? p.σ) (p.Jx z) s)
 | [],h,_=>by cases h
 | [j],h,hs=>by
  simp only [memN]at h
  cases hb:Nat.beq j z.1 with
  |true=>have:=q8 hb;subst this;exact hs
  |false=>rw [hb]at h;cases h
 |j::i::r,h,hs=>by
  simp only [Lp.ends,R.sat]at hs
  simp only [memN]at h
  cases hb:Nat.beq z.1 j with
  |true=>have:=q8 hb;subst this;exact hs.1 hb
  |false=>
   have hj:Nat.beq j z.1=false:=by
    cases hc:Nat.beq j z.1 with
    |false=>rfl
    |true=>have:=q8 hc;subst this;simp at hb
   refine Lp.ends_sat p (l:=i::r) ?_ (hs.2 hb)
   rw [hj,cond_false]at h
   simpa only [memN] using h
theorem Lp.ok{P:Program}{tbl:List (PF P)}{lf:List (St→R)}{W:Nat→Bool}{b:Code}(aS:P.follows .mixedOrders=true)(p:Lp X)
  (hD:(p.h.D.all W)=true) (hl:LOk P (memN p.h.D) lf b) (hJ: ∀ x,sG (p.JE x)=p.h.ids) (hX: ∀ j x,((sG (p.XE j x)).all (memN p.h.idsX)&&p.h.fx.all (memN (sG (p.XE j x))))=true)
  (hv: ∀ x,p.absL x ((LB P tbl (memN p.h.D) lf b (p.J x)).frzB p.fz) (p.lt x)=p.absR x (p.lt x)) (ii: ∀ x,p.okL x (p.lt x)=true)
  (hrd: ∀ s x,p.rd s=some x→aev s (p.JL x)=afl p.σ (p.JL x)∧aeu p.σ s (p.JE x)=aa3 p.σ (p.JE x)) (hσ: ∀ x,afd p.σ (p.JL x) (p.JE x)=true)
  (h0: ∀ z,p.fix z z=z) (h1: ∀ x z,(p.lt x).each fun y=>p.fix x z=p.fix y z):LoopOk P W p.F b:=by
 refine LoopOk.mk' (tbl:=tbl) (lf:=lf) (h:=p.h) (J:=p.J) (Jx:=fun _=>p.Jx) aS (List.all_eq_true.1 hD) hl p.fz
  (fun m x=>(Ky p.lt m x).isSome=true) (fun x q z=>q=p.q z.1∧memN p.tags z.1=true∧ ∃ m,Ky p.lt m x=some z) (fun x=>ad1 (hJ x)) (fun _ z=>ait (hX z.1 z.2)) ?_ p.F ?_
 ·intro m x hI
  cases m with
  |zero=>cases hI
  |succ m=>
   rw [Ky]at hI
   refine R.sat_mono (fun q s' hq=> ?_) (p.round (hv x) (ii x) hI)
   cases q with
   |normal=>
    obtain⟨y,σ,hg,Ua,hfx⟩:=hq
    refine⟨m,y,look? σ,by omega,by rw [hg]at hI;exact hI,fun q z ⟨h1,h2,n,hn⟩=>⟨h1,h2,?_⟩,Ua,hfx⟩
    cases hr:Ky p.lt m y with
    |none=>rw [hg,hr]at hI;cases hI
    |some z'=>
     have:=adH hn hr
     subst this
     exact⟨m + 1,by rw [Ky,hg,hr]⟩
   |exit i=>
    obtain⟨j,σ,hg,h1,h2,Ua,hfx⟩:=hq
    exact⟨(j,x),look? σ,⟨h1,h2,m + 1,by rw [Ky,hg]⟩,Ua,hfx⟩
   |ret=>
    obtain⟨j,σ,hg,h1,h2,Ua,hfx⟩:=hq
    exact⟨(j,x),look? σ,⟨h1,h2,m + 1,by rw [Ky,hg]⟩,Ua,hfx⟩
 ·intro s
  unfold Lp.F
  cases hr:p.rd s with
  |none=>exact .inl rfl
  |some x=>
   cases hfr:(p.h.fresh s).all (fun i=> !s.used i)with
   |false=>exact .inl (by simp only [cond_false])
   |true=>
    refine .inr ⟨[p.fin x],x,look? p.σ,p.ends s ((p.res x).1,p.fix x (p.res x).2) p.tags,by simp only [cond_true],p.ends_unch,aao (hσ x) (hrd s x hr).1 (hrd s x hr).2,rfl,fun hn=> ?_⟩
    have hs:=hn _ (z8.2 rfl)
    have hz0:=p.fin_ex hs
    rw [afq h0 h1 hz0]at *
    refine⟨⟨big (p.fuel x),by rw [hz0];rfl⟩,?_⟩
    rintro q z ⟨rfl,ht,m,hm⟩ post hp
    rw [← adH hm hz0]at hp
    exact p.ends_sat ht hp
theorem aa{s:St}{σ:List (Nat×Nat)}{k:Nat}{v u:SV}{L:List (Nat×SV)}(h:s.look k=some ⟨none,u⟩)(hv:v.ren (look? σ)=some u)(hr:aev s L=afl σ L):aev s ((k,v)::L)=afl σ ((k,v)::L):=by
 have h1:aev s ((k,v)::L)=s.look k::aev s L:=rfl
 have h2:afl σ ((k,v)::L)=(v.ren (look? σ)).map (SS.mk none)::afl σ L:=rfl
 rw [h1,h2,h,hv,hr];rfl
theorem ab{s:St}{σ:List (Nat×Nat)}{id j:Nat}{e e':Entry}{L:List (Nat×Entry)}(hj:look? σ id=some j)(h:s.ent j=some e')(he:e.ren (look? σ)=some e')(hr:aeu σ s L=aa3 σ L):aeu σ s ((id,e)::L)=aa3 σ ((id,e)::L):=by
 have h1:aeu σ s ((id,e)::L)=(look? σ id).bind s.ent::aeu σ s L:=rfl
 have h2:aa3 σ ((id,e)::L)=e.ren (look? σ)::aa3 σ L:=rfl
 rw [h1,h2,hj,he,hr,Option.bind_some,h]
def AP(c:Code)(i:Nat):Code:=((Qe c)[i]?).getD .skip
theorem LoopOk.or{P:Program}{W:Nat→Bool}{b:Code}{F G:St→R}(hF:LoopOk P W F b)(hG:LoopOk P W G b):LoopOk P W (fun s=>match F s with | .none=>G s | r=>r) b:=by
 refine⟨fun B s post hB hp=> ?_,fun s=> ?_⟩
 ·cases h:F s with
  |none=>simp only [h]at hp;exact hG.ok B s post hB hp
  |done q s'=>simp only [h]at hp;exact hF.ok B s post hB (by rw [h];exact hp)
  |need nd r=>simp only [h]at hp;exact hF.ok B s post hB (by rw [h];exact hp)
  |ite c t e=>simp only [h]at hp;exact hF.ok B s post hB (by rw [h];exact hp)
 ·have h1:=hF.un s
  have h2:=hG.un s
  cases h:F s with
  |none=>simpa only [h] using h2
  |done q s'=>rw [h]at h1;simpa only [h] using h1
  |need nd r=>rw [h]at h1;simpa only [h] using h1
  |ite c t e=>rw [h]at h1;simpa only [h] using h1
inductive LAll (P:Program) (W:Nat→Bool):List (St→R)→List Code→Prop where
 |nil (l:List Code):LAll P W [] l
 |cons {F:St→R} {b:Code} {lf:List (St→R)} {l:List Code} (h:LoopOk P W F b) (r:LAll P W lf l):LAll P W (F::lf) (b::l)
theorem LAll.get{P:Program}{W:Nat→Bool}{lf:List (St→R)}{l:List Code}(h:LAll P W lf l): ∀ (i:Nat) (F:St→R) (b:Code),lf[i]? =some F→l[i]? =some b→LoopOk P W F b:=by
 induction h with
 |nil l=>intro i F b hF;simp at hF
 |cons h r ih=>
  intro i F b hF hb
  cases i with
  |zero=>simp at hF hb;subst hF;subst hb;exact h
  |succ i=>exact ih i F b (by simpa using hF) (by simpa using hb)
theorem LOk.all{P:Program}{W:Nat→Bool}{lf:List (St→R)}{c:Code}(h:LAll P W lf (Qe c)):LOk P W lf c:=LOk.of_tops c lf h.get
theorem LOk.allT{P:Program}{W:Nat→Bool}{lf:List (St→R)}{c:Code}{l:List Code}(ht:Qe c=l)(h:LAll P W lf l):LOk P W lf c:=LOk.all (by rw [ht];exact h)
theorem LoopOk.no{P:Program}{W:Nat→Bool}{b:Code}:LoopOk P W (fun _=> .none) b:=⟨fun _ _ _ _ hp=>hp.elim,fun _=>trivial⟩
theorem LOk.fnT{P:Program}{W:Nat→Bool}{lf:List (St→R)}{fn:Func}{l:List Code}(ht:Qe (fn.body.getD .skip)=l)(h:LAll P W lf l): ∀ c,fn.body=some c→LOk P W lf c:=by
 intro c hc
 rw [hc]at ht
 exact LOk.allT ht h
theorem LOk.fn{P:Program}{W:Nat→Bool}{lf:List (St→R)}{fn:Func}(h:LAll P W lf (Qe (fn.body.getD .skip))): ∀ c,fn.body=some c→LOk P W lf c:=by
 intro c hc
 rw [hc]at h
 exact LOk.all h
end Go.SX
namespace Go.SX
open Go.RowKit
def Entry.fz:Entry→Entry
 | .row _ e t xs=> .row false e t xs
 | .tree e t xs none=> .row false e t xs
 |e=>e
def Entry.isRow:Entry→Bool
 | .row _ _ _ _=>true
 | .tree _ _ _ none=>true
 |_=>false
def Entry.isOwn:Entry→Bool
 | .row true _ _ _=>true
 | .tree _ _ _ none=>true
 |_=>false
def Entry.flatOwn:Entry→Bool
 | .row true _ t _=>t.flat
 | .tree _ _ _ none=>true
 |_=>false
theorem HpL.fz{w0 w:World}{mem:Nat→Option Obj}{es:List Entry}{ρ:Nm}(h:HpL w0 mem es ρ w):
  ∃ ρ':Nm,ρ'.nm=ρ.nm∧Ext (memB w0 mem) (fun i=>Nat.blt i es.length) ρ ρ'∧HpL w0 mem (es.map Entry.fz) ρ' w∧
   ∀ (i:Nat) (e:Entry) (b:Nat),es[i]? =some e→e.isRow=true→b∈e.ob ρ i→ ∃ o,ρ'.mem b=some o:=by
 obtain⟨ρ1,n1,f1,x1,h1,m1⟩:=Hp.freezeA h (aK 0 es.length)
 refine⟨ρ1,n1,x1,?_,fun i e b he hr hb=> ?_⟩
 ·unfold HpL
  rw [show (fun i=>(es.map Entry.fz)[i]?)=aZ (fun i=>es[i]?) (FF (fun i=>es[i]?) (aK 0 es.length)) from funext fun i=>by
   simp only [aZ,List.getElem?_map]
   have hno: ∀ e1,look? (FF (fun i=>es[i]?) (aK 0 es.length)) i=some e1→ ∃ e0 t xs,(es[i]? =some (.row true e0 t xs)∨es[i]? =some (.tree e0 t xs none))∧e1= .row false e0 t xs:=fun e1 hl=>(look?_frzA hl).2
   cases he:es[i]? with
   |none=>
    cases hl:look? (FF (fun i=>es[i]?) (aK 0 es.length)) i with
    |none=>rfl
    |some e1=>obtain⟨_,_,_,h3,_⟩:=hno e1 hl;rw [he]at h3;rcases h3 with h3 | h3 <;> cases h3
   |some e=>
    have gm:=(z6.1 he).1
    have Bp:i∈aK 0 es.length:=SX.memN_mem.1 (oW.2 ⟨Nat.zero_le _,by omega⟩)
    have Lg:e.fz=e→(∀ e0 t xs,e≠ .row true e0 t xs)→(∀ e0 t xs,e≠ .tree e0 t xs none)→Option.map Entry.fz (some e)=match look? (FF (fun i=>es[i]?) (aK 0 es.length)) i with | some e=>some e | none=>some e:=by
     intro hf hn1 hn2
     cases hl:look? (FF (fun i=>es[i]?) (aK 0 es.length)) i with
     |none=>simp only [Option.map_some,hf]
     |some e1=>
      obtain⟨_,_,_,h3,_⟩:=hno e1 hl
      rw [he]at h3
      rcases h3 with h3 | h3
      ·exact(hn1 _ _ _ (Option.some.inj h3)).elim
      ·exact(hn2 _ _ _ (Option.some.inj h3)).elim
    cases e with
    |row own e t xs=>
     cases own with
     |true=>
      have:=look?_frzA_mem (ent:=fun i=>es[i]?) Bp (.inl he)
      simp only [this,Option.map_some,Entry.fz]
     |false=>exact Lg rfl (fun _ _ _ h=>by cases h) (fun _ _ _ h=>by cases h)
    |tree e t xs ho=>
     cases ho with
     |none=>
      have:=look?_frzA_mem (ent:=fun i=>es[i]?) Bp (.inr he)
      simp only [this,Option.map_some,Entry.fz]
     |some q=>exact Lg rfl (fun _ _ _ h=>by cases h) (fun _ _ _ h=>by cases h)
    |box T cs=>exact Lg rfl (fun _ _ _ h=>by cases h) (fun _ _ _ h=>by cases h)
    |wk e t xs=>exact Lg rfl (fun _ _ _ h=>by cases h) (fun _ _ _ h=>by cases h)
    |mp ks=>exact Lg rfl (fun _ _ _ h=>by cases h) (fun _ _ _ h=>by cases h)
    |gone=>exact Lg rfl (fun _ _ _ h=>(by cases h)) (fun _ _ _ h=>by cases h)]
  rw [show (fun i=>Nat.blt i (es.map Entry.fz).length)=fun i=>Nat.blt i es.length from by rw [List.length_map]]
  exact h1
 ·have gm:=(z6.1 he).1
  have Bp:i∈aK 0 es.length:=SX.memN_mem.1 (oW.2 ⟨Nat.zero_le _,by omega⟩)
  refine m1 i Bp e he ?_ b hb
  cases e with
  |row own e t xs=>
   cases own with
   |true=>exact .inl ⟨_,_,_,rfl⟩
   |false=>cases hb
  |tree e t xs ho=>
   cases ho with
   |none=>exact .inr ⟨_,_,_,rfl⟩
   |some q=>cases hr
  |box T cs=>cases hr
  |wk e t xs=>cases hr
  |mp ks=>cases hr
  |gone=>cases hr
def PF.fz{P:Program}(p:PF P):PF P where
 k:=p.k
 F:=fun args es=>bif es.any Entry.isOwn then p.F args (es.map Entry.fz)else none
 ok:=by
  intro args es o h dq mem ρ w hp
  cases ha:es.any Entry.isOwn with
  |false=>rw [ha]at h;cases h
  |true=>
   rw [ha]at h
   obtain⟨ρ1,n1,x1,h1,_⟩:=hp.fz
   have hc:args.map (SV.conc ρ)=args.map (SV.conc ρ1):=by
    refine List.map_congr_left fun v _=> ?_
    have: ∀ i,ρ1 i=ρ i:=fun i=>by simp only [Nm.of,n1]
    exact(SV.conc_congr (U:=fun _=>true) (fun i _=>this i) (by
     have hc: ∀ c:Cell,c.inU fun _=>true:=fun c=>by cases c <;> simp [Cell.inU]
     cases v with
     |one v=>exact fun c _=>hc c
     |tup vs=>exact fun v _ c _=>hc c)).symm
   rw [hc]
   refine(p.ok args (es.map Entry.fz) o h dq mem ρ1 w h1).mono fun e w' ⟨ρ',hx,he,hl,hr,hh⟩=> ?_
   rw [List.length_map]at hx hl
   exact⟨ρ',x1.trans hx fun _ h=>h,he,hl,hr,hh⟩
theorem GO.dat{H:Nat→Option Obj}{t:CTy}{v:Value}{xs:List (E t)}(h:GO H t v xs){b:Nat}(hb:b∈fB v): ∃ o,H b=some o:=by
 rcases h with⟨hz,_⟩ | ⟨b',off,cap,arr,T,fz,rfl,_,_,h5,_⟩
 ·rw [ZS hz]at hb;cases hb
 ·have:=ND hb
  subst this;exact⟨_,h5⟩
theorem jY.flat{H H':Nat→Option Obj}{t:CTy}(hf:t.flat=true){cs:List Value}{xs:List (E t)}(h:jY H t cs xs):jY H' t cs xs:=by
 refine⟨h.1,fun i x hx=> ?_⟩
 rw [Rep.flat t _ _ hf (h.2 i x hx)]
 exact Rep.of_flat t x hf
def Entry.isRB:Entry→Bool
 | .row _ _ _ _=>true
 | .tree _ _ _ none=>true
 | .box _ _=>true
 |_=>false
def Entry.lentQ(q:TypeId→Bool):Entry→Bool
 | .row own e _ _=>q e|| !own
 | .tree _ _ _ none=>true
 |_=>false
def Entry.fzQ(q:TypeId→Bool):Entry→Entry
 | .row own e t xs=> .row (own&& !q e) e t xs
 | .tree e t xs none=> .row false e t xs
 |e=>e
def Yv(q:TypeId→Bool)(es:List Entry)(i:Nat):Bool:=match es[i]? with | some e=>e.lentQ q | none=>false
theorem HpL.fzQ(q:TypeId→Bool){w0 w:World}{mem:Nat→Option Obj}{es:List Entry}{ρ:Nm}(h:HpL w0 mem es ρ w):
  ∃ ρ':Nm,ρ'.nm=ρ.nm∧Ext (memB w0 mem) (fun i=>Nat.blt i es.length) ρ ρ'∧HpL w0 mem (es.map (Entry.fzQ q)) ρ' w∧
   ∀ (i:Nat) (e:Entry) (b:Nat),es[i]? =some e→e.lentQ q=true→b∈e.ob ρ i→ ∃ o,ρ'.mem b=some o:=by
 obtain⟨ρ1,n1,f1,x1,h1,m1⟩:=Hp.freezeA h ((aK 0 es.length).filter (Yv q es))
 refine⟨ρ1,n1,x1,?_,fun i e b he hr hb=> ?_⟩
 ·unfold HpL
  rw [show (fun i=>(es.map (Entry.fzQ q))[i]?)=aZ (fun i=>es[i]?) (FF (fun i=>es[i]?) ((aK 0 es.length).filter (Yv q es))) from funext fun i=>by
   simp only [aZ,List.getElem?_map]
   have hno: ∀ e1,look? (FF (fun i=>es[i]?) ((aK 0 es.length).filter (Yv q es))) i=some e1→Yv q es i=true∧ ∃ e0 t xs,(es[i]? =some (.row true e0 t xs)∨es[i]? =some (.tree e0 t xs none))∧e1= .row false e0 t xs:=fun e1 hl=>
    ⟨(List.mem_filter.1 (look?_frzA hl).1).2,(look?_frzA hl).2⟩
   cases he:es[i]? with
   |none=>
    cases hl:look? (FF (fun i=>es[i]?) ((aK 0 es.length).filter (Yv q es))) i with
    |none=>rfl
    |some e1=>obtain⟨_,_,_,_,h3,_⟩:=hno e1 hl;rw [he]at h3;rcases h3 with h3 | h3 <;> cases h3
   |some e=>
    have gm:=(z6.1 he).1
    have Bp:Yv q es i=true→i∈(aK 0 es.length).filter (Yv q es):=fun hs=>List.mem_filter.2 ⟨SX.memN_mem.1 (oW.2 ⟨Nat.zero_le _,by omega⟩),hs⟩
    have Lg:e.fzQ q=e→((∃ e0 t xs,e= .row true e0 t xs)→Yv q es i=false)→(∀ e0 t xs,e≠ .tree e0 t xs none)→Option.map (Entry.fzQ q) (some e)=match look? (FF (fun i=>es[i]?) ((aK 0 es.length).filter (Yv q es))) i with | some e=>some e | none=>some e:=by
     intro hf hn1 hn2
     cases hl:look? (FF (fun i=>es[i]?) ((aK 0 es.length).filter (Yv q es))) i with
     |none=>simp only [Option.map_some,hf]
     |some e1=>
      obtain⟨h2,_,_,_,h3,_⟩:=hno e1 hl
      rw [he]at h3
      rcases h3 with h3 | h3
      ·rw [hn1 ⟨_,_,_,Option.some.inj h3⟩]at h2;cases h2
      ·exact(hn2 _ _ _ (Option.some.inj h3)).elim
    cases e with
    |row own e t xs=>
     cases own with
     |true=>
      cases hq:q e with
      |true=>
       have:=look?_frzA_mem (ent:=fun i=>es[i]?) (Bp (by simp [Yv,he,Entry.lentQ,hq])) (.inl he)
       simp only [this,Option.map_some,Entry.fzQ,hq,Bool.not_true,Bool.and_false]
      |false=>exact Lg (by simp [Entry.fzQ,hq]) (fun _=>by simp [Yv,he,Entry.lentQ,hq]) (fun _ _ _ h=>by cases h)
     |false=>exact Lg rfl (fun⟨_,_,_,h⟩=>by cases h) (fun _ _ _ h=>by cases h)
    |tree e t xs ho=>
     cases ho with
     |none=>
      have:=look?_frzA_mem (ent:=fun i=>es[i]?) (Bp (by simp [Yv,he,Entry.lentQ])) (.inr he)
      simp only [this,Option.map_some,Entry.fzQ]
     |some q=>exact Lg rfl (fun⟨_,_,_,h⟩=>by cases h) (fun _ _ _ h=>by cases h)
    |box T cs=>exact Lg rfl (fun⟨_,_,_,h⟩=>by cases h) (fun _ _ _ h=>by cases h)
    |wk e t xs=>exact Lg rfl (fun⟨_,_,_,h⟩=>by cases h) (fun _ _ _ h=>by cases h)
    |mp ks=>exact Lg rfl (fun⟨_,_,_,h⟩=>by cases h) (fun _ _ _ h=>by cases h)
    |gone=>exact Lg rfl (fun⟨_,_,_,h⟩=>by cases h) (fun _ _ _ h=>(by cases h))]
  rw [show (fun i=>Nat.blt i (es.map (Entry.fzQ q)).length)=fun i=>Nat.blt i es.length from by rw [List.length_map]]
  exact h1
 ·have gm:=(z6.1 he).1
  have Bp:i∈(aK 0 es.length).filter (Yv q es):=List.mem_filter.2 ⟨SX.memN_mem.1 (oW.2 ⟨Nat.zero_le _,by omega⟩),by simp only [Yv,he];exact hr⟩
  refine m1 i Bp e he ?_ b hb
  cases e with
  |row own e t xs=>
   cases own with
   |true=>exact .inl ⟨_,_,_,rfl⟩
   |false=>cases hb
  |tree e t xs ho=>
   cases ho with
   |none=>exact .inr ⟨_,_,_,rfl⟩
   |some q=>cases hr
  |box T cs=>cases hr
  |wk e t xs=>cases hr
  |mp ks=>cases hr
  |gone=>cases hr
def Pm(q:TypeId→Bool):List Entry→List Entry→List Entry
 |e0::r0,e::r=>(bif e0.lentQ q then e0 else e)::Pm q r0 r
 |_,l=>l
theorem Ry{q:TypeId→Bool}: ∀ (es l:List Entry),(Pm q es l).length=l.length
 | [],l=>by cases l <;> rfl
 |_::_,[]=>rfl
 |e0::r0,e::r=>by simp only [Pm,w9,Ry r0 r]
theorem ach{q:TypeId→Bool}: ∀ {es l:List Entry} {i:Nat} {e0 e2:Entry},es[i]? =some e0→(Pm q es l)[i]? =some e2→(e0.lentQ q=true∧e2=e0)∨(e0.lentQ q=false∧l[i]? =some e2)
 | [],l,i,e0,e2,h0,h=>by simp at h0
 |_::_,[],i,e0,e2,h0,h=>by simp [Pm]at h
 |e::r0,e'::r,0,e0,e2,h0,h=>by
  simp only [List.getElem?_cons_zero,w3]at h0
  subst h0
  simp only [Pm,List.getElem?_cons_zero,w3]at h
  cases hq:e.lentQ q with
  |true=>left;rw [hq]at h;exact⟨rfl,h.symm⟩
  |false=>right;rw [hq]at h;exact⟨rfl,by rw [← h];rfl⟩
 |e::r0,e'::r,i + 1,e0,e2,h0,h=>by
  simp only [Pm,List.getElem?_cons_succ]at h0 h ⊢
  exact ach h0 h
def Entry.okB:Entry→Bool
 | .box _ _=>true
 | .gone=>true
 | .row true _ t _=>t.flat
 |_=>false
def aan(q:TypeId→Bool):List Entry→List Entry→Bool
 |e0::r0,e::r=>(e0.lentQ q||e.okB)&&aan q r0 r
 |_,_=>true
theorem acr{q:TypeId→Bool}: ∀ {es l:List Entry} {i:Nat} {e0 e:Entry},aan q es l=true→es[i]? =some e0→e0.lentQ q=false→l[i]? =some e→e.okB=true
 | [],l,i,e0,e,_,h0,_,_=>by simp at h0
 |_::_,[],i,e0,e,_,_,_,h=>by simp at h
 |f0::r0,f::r,0,e0,e,hk,h0,hr,h=>by
  simp only [List.getElem?_cons_zero,w3]at h0 h
  subst h0 h
  simp only [aan,hr,Bool.false_or,w4]at hk
  exact hk.1
 |f0::r0,f::r,i + 1,e0,e,hk,h0,hr,h=>by
  simp only [aan,w4]at hk
  simp only [List.getElem?_cons_succ]at h0 h
  exact acr hk.2 h0 hr h
def PF.lendQ{P:Program}(q:TypeId→Bool)(p:PF P):PF P where
 k:=p.k
 F:=fun args es=>bif es.any Entry.isOwn&&es.all Entry.isRB then
   match p.F args (es.map (Entry.fzQ q))with
   |some o=>bif o.new.all Entry.flatOwn&&aan q es o.es then some ⟨o.res,Pm q es o.es,o.new,o.nd⟩else none
   |none=>none
  else none
 ok:=by
  intro args es o h dq mem ρ w hp
  cases ha:(es.any Entry.isOwn&&es.all Entry.isRB)with
  |false=>rw [ha]at h;cases h
  |true=>
   rw [ha,cond_true]at h
   simp only [w4]at ha
   have hrow:=List.all_eq_true.1 ha.2
   split at h
   ·rename_i o1 ho1
    cases hf:(o1.new.all Entry.flatOwn&&aan q es o1.es)with
    |false=>rw [hf]at h;cases h
    |true=>
     rw [hf,cond_true]at h
     cases h
     simp only [w4]at hf
     have ii:=hf.2
     have hflat:=List.all_eq_true.1 hf.1
     obtain⟨ρ1,n1,x1,h1,hdat1⟩:=hp.fzQ q
     have hc:args.map (SV.conc ρ)=args.map (SV.conc ρ1):=by
      refine List.map_congr_left fun v _=> ?_
      have: ∀ i,ρ1 i=ρ i:=fun i=>by simp only [Nm.of,n1]
      exact(SV.conc_congr (U:=fun _=>true) (fun i _=>this i) (by
       have hc: ∀ c:Cell,c.inU fun _=>true:=fun c=>by cases c <;> simp [Cell.inU]
       cases v with
       |one v=>exact fun c _=>hc c
       |tup vs=>exact fun v _ c _=>hc c)).symm
     rw [hc]
     refine(p.ok args (es.map (Entry.fzQ q)) o1 ho1 dq mem ρ1 w h1).mono fun e w' ⟨ρ2,hx,he,hl,hr,hh⟩=> ?_
     rw [List.length_map]at hx hl
     have hll:(Pm q es o1.es).length=es.length:=by rw [Ry,hl]
     have jw:(o1.es++o1.new).length=(Pm q es o1.es++o1.new).length:=by simp only [w5,Ry]
     have Ff: ∀ i,i < es.length→ρ2 i=ρ i:=fun i hi=>by
      rw [hx.nm i (by simp only [Nat.blt];exact Nat.ble_eq_true_of_le hi)]
      simp only [Nm.of,n1]
     let ρ':Nm:=⟨ρ2.nm,ρ.mem,fun i=>bif Nat.blt i es.length then ρ.fp i else ρ2.fp i⟩
     have hρ': ∀ i,ρ' i=ρ2 i:=fun i=>rfl
     have hold: ∀ b o,ρ.mem b=some o→ρ2.mem b=some o:=fun b o hb=>hx.old b o (x1.old b o hb)
     have jL: ∀ (i:Nat) (e:Entry),(Pm q es o1.es++o1.new)[i]? =some e→(i < es.length∧es[i]? =some e∧e.lentQ q=true)∨((o1.es++o1.new)[i]? =some e∧((e.flatOwn=true∧es.length≤i)∨e.okB=true)):=by
      intro i e hi
      by_cases gm:i < es.length
      ·rw [List.getElem?_append_left (by omega)]at hi
       have he0:es[i]? =some es[i]:=List.getElem?_eq_getElem gm
       rcases ach he0 hi with⟨h1,rfl⟩ | ⟨h1,h2⟩
       ·exact .inl ⟨gm,he0,h1⟩
       ·exact .inr ⟨by rw [List.getElem?_append_left (by omega)];exact h2,.inr (acr ii he0 h1 h2)⟩
      ·right
       have hge:es.length≤i:=Nat.le_of_not_lt gm
       rw [List.getElem?_append_right (by omega)]at hi
       exact⟨by rw [List.getElem?_append_right (by omega),hl,← hll];exact hi,.inl ⟨hflat _ (List.mem_of_getElem? hi),hge⟩⟩
     have hobA: ∀ (i:Nat) (e:Entry),i < es.length→e.ob ρ' i=e.ob ρ i:=by
      intro i e gm
      have h1:ρ' i=ρ i:=(hρ' i).trans (Ff i gm)
      have h2:ρ'.fp i=ρ.fp i:=by show (bif Nat.blt i es.length then ρ.fp i else ρ2.fp i)=_;rw [show Nat.blt i es.length=true from Nat.ble_eq_true_of_le gm];rfl
      cases e with
      |row own _ _ _=>cases own <;> simp only [Entry.ob,h1]
      |_=>simp only [Entry.ob,h1,h2]
     have hfpB: ∀ i,es.length≤i→ρ'.fp i=ρ2.fp i:=by
      intro i hge
      show (bif Nat.blt i es.length then ρ.fp i else ρ2.fp i)=_
      have:Nat.blt i es.length=false:=by
       cases hb:Nat.blt i es.length with
       |false=>rfl
       |true=>have:=z7 hb;omega
      rw [this];rfl
     have hobB: ∀ (i:Nat) (e:Entry),((e.flatOwn=true∧es.length≤i)∨e.okB=true)→e.ob ρ' i=e.ob ρ2 i:=by
      intro i e hf
      rcases hf with⟨hf,hge⟩ | hf
      ·have h2:=hfpB i hge
       cases e with
       |row own _ _ _=>cases own <;> simp only [Entry.ob,hρ']
       |_=>simp only [Entry.ob,hρ',h2]
      ·cases e with
       |row own _ _ _=>cases own <;> simp only [Entry.ob,hρ']
       |box _ _=>simp only [Entry.ob,hρ']
       |gone=>rfl
       |wk _ _ _=>cases hf
       |mp _=>cases hf
       |tree _ _ _ _=>cases hf
     have jM: ∀ (i:Nat) (e:Entry) (b:Nat),(o1.es++o1.new)[i]? =some e→b∈e.ob ρ2 i→ρ2.mem b=none:=by
      intro i e b hi hb
      exact(Entry.ob_lt (hh.he i e hi).1 hb).2.2
     have hnone: ∀ b,ρ2.mem b=none→ρ.mem b=none:=by
      intro b hb
      cases hm:ρ.mem b with
      |none=>rfl
      |some ob=>rw [hold b ob hm]at hb;cases hb
     have hconc: ∀ cs:List Cell,cs.map (Cell.conc ρ')=cs.map (Cell.conc ρ2):=fun cs=>
      uQ (U:=fun _=>true) (fun i _=>hρ' i) (fun c _=>by cases c <;> simp [Cell.inU])
     refine⟨ρ',⟨fun i hi=> ?_,fun _ _ h=>h,fun _ _ h=> .inl h⟩,he,hll,by rw [← jw];exact hr,⟨fun i e hi=> ?_,fun i j e e' b hi hj hb hb'=> ?_,⟨hh.hf.os,hh.hf.tape,hh.hf.output,hh.hf.size,hh.hf.mem,fun b o hb=>hh.hf.dat b o (hold b o hb),hp.hf.gl⟩⟩⟩
     ·rw [hρ'];exact Ff i (z7 hi)
     ·rcases jL i e hi with⟨gm,hi',hir⟩ | ⟨hi',hf'⟩
      ·have hq:=(hp.he i e hi').1
       have hheap: ∀ b∈e.ob ρ i,w'.heap[b]? =w.heap[b]? :=fun b hb=>by
        obtain⟨ob,hob⟩:=hdat1 i _ b hi' hir hb
        rw [h1.hf.dat b ob hob,hh.hf.dat b ob (hx.old b ob hob)]
       refine⟨?_,by simp only [Nat.blt,Nat.ble_eq,w5];omega,?_⟩
       ·cases e with
        |box T cs=>cases hir
        |wk e t xs=>cases hir
        |mp ks=>cases hir
        |gone=>trivial
        |row own e t xs=>
         cases own with
         |false=>simp only [Entry.holds]at hq ⊢;rw [hρ',Ff i gm];exact hq
         |true=>
          obtain⟨cs,k1,k2,k3⟩:=hq
          simp only [Entry.holds]
          rw [hρ',Ff i gm]
          exact⟨cs,LV k1 fun b hb=>hheap b hb,k2,k3⟩
        |tree e t xs ho=>
         cases ho with
         |some q=>cases hir
         |none=>
          have h2:ρ'.fp i=ρ.fp i:=by show (bif Nat.blt i es.length then ρ.fp i else ρ2.fp i)=_;rw [show Nat.blt i es.length=true from Nat.ble_eq_true_of_le gm];rfl
          obtain⟨cs,Ls,k1,k2,k3,k4,k5⟩:=hq
          simp only [Entry.ob]at hheap
          simp only [Entry.holds]
          rw [hρ',Ff i gm,h2]
          exact⟨cs,Ls,LV k1 fun b hb=>hheap b (List.mem_append_left _ hb),k2.keep (fun b hb=>hheap b (w6 _ (by rw [k3];exact hb))) (fun _ _ h=>by cases h),k3,k4,k5⟩
       ·cases e with
        |box T cs=>cases hir
        |wk e t xs=>cases hir
        |mp ks=>cases hir
        |gone=>trivial
        |row own e t xs=>trivial
        |tree e t xs ho=>
         cases ho with
         |some q=>cases hir
         |none=>trivial
      ·have hq:=hh.he i e hi'
       refine⟨?_,by rw [← jw];exact hq.2.1,?_⟩
       ·rcases hf' with⟨hf',hge⟩ | hf'
        ·cases e with
         |box T cs=>cases hf'
         |wk e t xs=>cases hf'
         |mp ks=>cases hf'
         |gone=>cases hf'
         |row own e t xs=>
          cases own with
          |false=>cases hf'
          |true=>
           obtain⟨cs,k1,k2,k3⟩:=hq.1
           exact⟨cs,k1,jY.flat hf' k2,fun b hb=>⟨(k3 b hb).1,hnone b (k3 b hb).2⟩⟩
         |tree e t xs ho=>
          cases ho with
          |some q=>cases hf'
          |none=>
           obtain⟨cs,Ls,k1,k2,k3,k4,k5⟩:=hq.1
           have h2:=hfpB i hge
           simp only [Entry.holds]
           rw [hρ',h2]
           exact⟨cs,Ls,k1,k2.keep (fun _ _=>rfl) (fun _ _ h=>by cases h),k3,k4,fun b hb=>⟨(k5 b hb).1,hnone b (k5 b hb).2⟩⟩
        ·cases e with
         |box T cs=>
          obtain⟨b,k1,k2,k3,k4⟩:=hq.1
          exact⟨b,k1,by rw [hconc];exact k2,k3,hnone b k4⟩
         |gone=>trivial
         |wk _ _ _=>cases hf'
         |mp _=>cases hf'
         |tree _ _ _ _=>cases hf'
         |row own e t xs=>
          cases own with
          |false=>cases hf'
          |true=>
           obtain⟨cs,k1,k2,k3⟩:=hq.1
           exact⟨cs,k1,jY.flat hf' k2,fun b hb=>⟨(k3 b hb).1,hnone b (k3 b hb).2⟩⟩
       ·rw [← jw];exact hq.2.2
     ·rcases jL i e hi with⟨gm,hi',hir⟩ | ⟨hi',hf'⟩
      ·rw [hobA i e gm]at hb
       rcases jL j e' hj with⟨hlt',hj',hjr⟩ | ⟨hj',hf''⟩
       ·rw [hobA j e' hlt']at hb'
        exact hp.hi i j e e' b hi' hj' hb hb'
       ·obtain⟨ob,hob⟩:=hdat1 i e b hi' hir hb
        rw [hobB j e' hf'']at hb'
        have:=jM j e' b hj' hb'
        rw [hx.old b ob hob]at this;cases this
      ·rw [hobB i e hf']at hb
       rcases jL j e' hj with⟨hlt',hj',hjr⟩ | ⟨hj',hf''⟩
       ·rw [hobA j e' hlt']at hb'
        obtain⟨ob,hob⟩:=hdat1 j e' b hj' hjr hb'
        have:=jM i e b hi' hb
        rw [hx.old b ob hob]at this;cases this
       ·rw [hobB j e' hf'']at hb'
        exact hh.hi i j e e' b hi' hj' hb hb'
   ·cases h
abbrev PF.lend{P:Program}(p:PF P):PF P:=PF.lendQ (fun _=>true) p
def Xw:List Entry→List Entry→List Entry
 |e0::r0,e::r=>(match e0 with | .row false T t xs=> .row false T t xs | _=>e)::Xw r0 r
 |_,l=>l
theorem HL: ∀ (es l:List Entry),(Xw es l).length=l.length
 | [],l=>by cases l <;> rfl
 |_::_,[]=>rfl
 |e0::r0,e::r=>by simp only [Xw,w9,HL r0 r]
theorem adu: ∀ {es l:List Entry} {i:Nat} {e2:Entry},(Xw es l)[i]? =some e2→ ∃ e1,l[i]? =some e1∧(e2=e1∨ ∃ T t xs,e2= .row false T t xs∧es[i]? =some e2)
 | [],l,i,e2,h=>by
  have:Xw [] l=l:=by cases l <;> rfl
  rw [this]at h;exact⟨e2,h,.inl rfl⟩
 |_::_,[],i,e2,h=>by simp [Xw]at h
 |e0::r0,e::r,0,e2,h=>by
  simp only [Xw,List.getElem?_cons_zero,w3]at h
  subst h
  refine⟨e,rfl,?_⟩
  split
  ·rename_i T t xs;exact .inr ⟨T,t,xs,rfl,rfl⟩
  ·exact .inl rfl
 |e0::r0,e::r,i + 1,e2,h=>by
  simp only [Xw,List.getElem?_cons_succ]at h ⊢
  exact adu h
def nd1:List Bool→List Bool
 | []=> []
 |b::r=> [allT (b::r)]
theorem ajC{l:List Bool}(h: ∀ b∈nd1 l,b=true): ∀ b∈l,b=true:=by
 cases l with
 |nil=>intro b hb;cases hb
 |cons b r=>exact abH (h _ (z8.2 rfl))
def aj9(P:Program)(tbl:List (PF P))(lf:List (St→R))(fn:Func)(args:List SV)(es:List Entry):Option Out:=
 match agV P tbl lf fn args es with
 |some o=>some ⟨o.res,Xw es o.es,o.new,nd1 o.nd⟩
 |none=>none
def PF.ofG(P:Program)(tbl:List (PF P))(lf:List (St→R))(aS:P.follows .mixedOrders=true)(k:FuncId)(fn:Func)(hf:P.funcs[k]? =some fn)(hl: ∀ c,fn.body=some c→LOk P (fun k=>Nat.blt k fn.ntmps) lf c)
  (F:List SV→List Entry→Option Out) (h: ∀ vs es r,F vs es=some r→aj9 P tbl lf fn vs es=some r):PF P where
 k:=k
 F:=F
 ok:=by
  intro vs es o hv dq mem ρ w hp
  have hc:=h vs es o hv
  unfold aj9 at hc
  split at hc
  ·rename_i o1 ho1
   cases hc
   refine(Vd aS hf hl ho1 (ajC dq) mem ρ w hp).mono fun e w' ⟨ρ',hx,he,jw,hr,hh⟩=> ?_
   have hl2:(Xw es o1.es++o1.new).length=(o1.es++o1.new).length:=by simp only [w5,HL]
   refine⟨ρ',hx,he,by rw [HL];exact jw,by rw [hl2];exact hr,?_⟩
   unfold HpL
   rw [hl2]
   refine Hp.less hh fun id e2 h2=> ?_
   by_cases gm:id < o1.es.length
   ·rw [List.getElem?_append_left (by rw [HL];exact gm)]at h2
    obtain⟨e1,h1,Lq⟩:=adu h2
    have h1':(o1.es++o1.new)[id]? =some e1:=by rw [List.getElem?_append_left gm];exact h1
    rcases Lq with rfl | ⟨T,t,xs,rfl,he0⟩
    ·obtain⟨q1,_,q3⟩:=hh.he id e2 h1'
     exact⟨e2,h1',q1,fun _ h=>h,q3⟩
    ·refine⟨e1,h1',?_,fun b hb=>(by cases hb),trivial⟩
     have:=(hp.he id _ he0).1
     simp only [Entry.holds]at this ⊢
     rw [hx.nm id (by simp only [Nat.blt];exact Nat.ble_eq_true_of_le (by omega))]
     exact GO.mono hx.old this
   ·rw [List.getElem?_append_right (by rw [HL];omega),HL]at h2
    have h1':(o1.es++o1.new)[id]? =some e2:=by rw [List.getElem?_append_right (by omega)];exact h2
    obtain⟨q1,_,q3⟩:=hh.he id e2 h1'
    exact⟨e2,h1',q1,fun _ h=>h,q3⟩
  ·cases hc
end Go.SX
namespace Go.SX
open Go.RowKit
variable{X A B:Type}
def LT.out:LT X→Option (Nat ⊕ X)
 | .nrm x _=>some (.inr x)
 | .ext j _=>some (.inl j)
 | .need nd t=>bif allT nd then t.out else none
 | .ite b t e=>bif b then t.out else e.out
theorem LT.go_out{Z:Type}{k:X→Option Z}{e:Nat→Option Z}: ∀ {t:LT X} {r:Nat ⊕ X},t.out=some r→t.go k e=match r with | .inl j=>e j | .inr y=>k y
 | .nrm x _,r,h=>by simp only [LT.out,w3]at h;subst h;rfl
 | .ext j _,r,h=>by simp only [LT.out,w3]at h;subst h;rfl
 | .need nd t,r,h=>by
  simp only [LT.out]at h
  simp only [LT.go]
  cases hn:allT nd with
  |true=>rw [hn,cond_true]at h;rw [cond_true];exact LT.go_out h
  |false=>rw [hn]at h;cases h
 | .ite b t u,r,h=>by
  simp only [LT.out]at h
  simp only [LT.go]
  cases b with
  |true=>rw [cond_true]at h ⊢;exact LT.go_out h
  |false=>rw [cond_false]at h ⊢;exact LT.go_out h
theorem PH{lt:X→LT X}{x:X}{j:Nat}(n:Nat)(h:(lt x).out=some (.inl j)):Ky lt (n + 1) x=some (j,x):=by
 rw [Ky,LT.go_out h]
theorem VU{lt:X→LT X}{x y:X}(n:Nat)(h:(lt x).out=some (.inr y)):Ky lt (n + 1) x=Ky lt n y:=by
 rw [Ky,LT.go_out h]
def fA(f:B→A→Nat ⊕ A)(e:Nat):List B→Nat→A→Nat×Nat×A
 | [],i,a=>(e,i,a)
 |b::r,i,a=>match f b a with
  | .inl j=>(j,i,a)
  | .inr a'=>fA f e r (i + 1) a'
theorem aij{xs:List B}{i:Nat}{b:B}{r:List B}(h:xs.drop i=b::r):xs[i]? =some b∧xs.drop (i + 1)=r:=by
 refine⟨?_,?_⟩
 ·have:=congrArg (fun l=>l[0]?) h
  simpa using this
 ·rw [← List.tail_drop,h];rfl
theorem OZ{lt:X→LT X}(st:Nat→A→X)(f:B→A→Nat ⊕ A)(e:Nat)(Inv:Nat→A→Prop)(xs:List B)
  (hs: ∀ i b a,xs[i]? =some b→Inv i a→(lt (st i a)).out=some (match f b a with | .inl j=> .inl j | .inr a'=> .inr (st (i + 1) a'))∧ ∀ a',f b a= .inr a'→Inv (i + 1) a')
  (he: ∀ a,Inv xs.length a→(lt (st xs.length a)).out=some (.inl e)):
  ∀ (l:List B) (i:Nat) (a:A),xs.drop i=l→i + l.length=xs.length→Inv i a→Ky lt (l.length + 1) (st i a)=some ((fA f e l i a).1,st (fA f e l i a).2.1 (fA f e l i a).2.2)
 | [],i,a,_,hn,hI=>by
  have:i=xs.length:=by simpa using hn
  subst this
  exact PH _ (he a hI)
 |b::r,i,a,hd,hn,hI=>by
  obtain⟨h1,h2⟩:=aij hd
  obtain⟨h3,h4⟩:=hs i b a h1 hI
  simp only [fA]
  cases hf:f b a with
  |inl j=>rw [hf]at h3;exact PH _ h3
  |inr a'=>
   rw [hf]at h3
   rw [w9,VU _ h3]
   exact OZ st f e Inv xs hs he r (i + 1) a' h2 (by simp only [w9]at hn;omega) (h4 a' hf)
theorem Lp.walk(p:Lp X)(st:Nat→A→X)(f:B→A→Nat ⊕ A)(e:Nat)(Inv:Nat→A→Prop)(xs:List B)
  (hs: ∀ i b a,xs[i]? =some b→Inv i a→(p.lt (st i a)).out=some (match f b a with | .inl j=> .inl j | .inr a'=> .inr (st (i + 1) a'))∧ ∀ a',f b a= .inr a'→Inv (i + 1) a')
  (he: ∀ a,Inv xs.length a→(p.lt (st xs.length a)).out=some (.inl e)) (a:A) (h0:Inv 0 a) (hf:xs.length≤p.fuel (st 0 a)):
  p.fin (st 0 a)=true∧p.res (st 0 a)=((fA f e xs 0 a).1,st (fA f e xs 0 a).2.1 (fA f e xs 0 a).2.2):=
 p.run (OZ st f e Inv xs hs he xs 0 a rfl (by omega) h0) (acb (by omega))
theorem aB{x:Int}(h0: -9223372036854775808≤x)(h1:x≤9223372036854775807):IntKind.i64.wrap x=x:=by
 have hb:IntKind.i64.bits=64:=rfl
 have hs:IntKind.i64.signed=true:=rfl
 simp only [IntKind.wrap,hb,hs,Bool.true_and,decide_eq_true_eq]
 split <;> omega
theorem jv{i n:Nat}(h:i < n)(hn:n≤9223372036854775807):IntKind.i64.wrap ((i:Int) + 1)=((i + 1:Nat):Int):=by
 rw [aB (by omega) (by omega)];omega
end Go.SX
