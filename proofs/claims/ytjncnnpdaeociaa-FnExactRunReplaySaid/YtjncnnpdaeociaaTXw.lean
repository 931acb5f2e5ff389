import Derived.Test.YtjncnnpdaeociaaTXh
set_option linter.unusedSimpArgs false
set_option linter.unusedVariables false
namespace Go.SX
open Go.RowKit
def Entry.isWk:Entry→Bool
 | .wk _ _ _=>true
 |_=>false
def Entry.wkD:Entry→Entry
 | .wk e t xs=> .row false e t xs
 |e=>e
def Hc:List Entry→List Entry→List Entry
 |e0::r0,e::r=>(bif e0.isWk then e0 else e)::Hc r0 r
 |_,l=>l
theorem AA: ∀ (es l:List Entry),(Hc es l).length=l.length
 | [],l=>by cases l <;> rfl
 |_::_,[]=>rfl
 |e0::r0,e::r=>by simp only [Hc,List.length_cons,AA r0 r]
theorem Kp: ∀ {es l:List Entry} {i:Nat} {e0 e2:Entry},es[i]? =some e0→(Hc es l)[i]? =some e2→(e0.isWk=true∧e2=e0)∨(e0.isWk=false∧l[i]? =some e2)
 | [],l,i,e0,e2,h0,h=>by simp at h0
 |_::_,[],i,e0,e2,h0,h=>by simp [Hc]at h
 |e::r0,e'::r,0,e0,e2,h0,h=>by
  simp only [List.getElem?_cons_zero,Option.some.injEq]at h0
  subst h0
  simp only [Hc,List.getElem?_cons_zero,Option.some.injEq]at h
  cases hq:e.isWk with
  |true=>left;rw [hq]at h;exact⟨rfl,h.symm⟩
  |false=>right;rw [hq]at h;exact⟨rfl,by rw [← h];rfl⟩
 |e::r0,e'::r,i + 1,e0,e2,h0,h=>by
  simp only [Hc,List.getElem?_cons_succ]at h0 h ⊢
  exact Kp h0 h
def Entry.okW:Entry→Bool
 | .gone=>true
 | .row true _ t _=>t.flat
 |_=>false
def LY:List Entry→List Entry→Bool
 |e0::r0,e::r=>(e0.isWk||e.okW)&&LY r0 r
 |_,_=>true
theorem JR: ∀ {es l:List Entry} {i:Nat} {e0 e:Entry},LY es l=true→es[i]? =some e0→e0.isWk=false→l[i]? =some e→e.okW=true
 | [],l,i,e0,e,_,h0,_,_=>by simp at h0
 |_::_,[],i,e0,e,_,_,_,h=>by simp at h
 |f0::r0,f::r,0,e0,e,hk,h0,hr,h=>by
  simp only [List.getElem?_cons_zero,Option.some.injEq]at h0 h
  subst h0 h
  simp only [LY,hr,Bool.false_or,Bool.and_eq_true]at hk
  exact hk.1
 |f0::r0,f::r,i + 1,e0,e,hk,h0,hr,h=>by
  simp only [LY,Bool.and_eq_true]at hk
  simp only [List.getElem?_cons_succ]at h0 h
  exact JR hk.2 h0 hr h
theorem OB(v:SV):v.inU fun _=>true:=by
 have hc: ∀ c:Cell,c.inU fun _=>true:=fun c=>by cases c <;> simp [Cell.inU]
 cases v with
 |one v=>exact fun c _=>hc c
 |tup vs=>exact fun v _ c _=>hc c
theorem Gg{ρ ρ':Nm}(h: ∀ i,ρ' i=ρ i)(args:List SV):args.map (SV.conc ρ)=args.map (SV.conc ρ'):=
 List.map_congr_left fun v _=>(SV.conc_congr (U:=fun _=>true) (fun i _=>h i) (OB v)).symm
open Classical in
def PF.lendW{P:Program}(p:PF P):PF P where
 k:=p.k
 F:=fun args es=>bif es.any Entry.isWk then
   match p.F args (es.map Entry.wkD)with
   |some o=>bif o.new.all Entry.okW&&LY es o.es then some ⟨o.res,Hc es o.es,o.new,o.nd⟩else none
   |none=>none
  else none
 ok:=by
  intro args es o h bf mem ρ w hp
  cases ha:es.any Entry.isWk with
  |false=>rw [ha]at h;cases h
  |true=>
   rw [ha,cond_true]at h
   split at h
   ·rename_i o1 ho1
    cases hf:(o1.new.all Entry.okW&&LY es o1.es)with
    |false=>rw [hf]at h;cases h
    |true=>
     rw [hf,cond_true]at h
     cases h
     simp only [Bool.and_eq_true]at hf
     have cK:=hf.2
     have hnw:=List.all_eq_true.1 hf.1
     let X:Nat→Prop:=fun b=> ∃ (i:Nat) (e:Entry),es[i]? =some e∧e.isWk=true∧b∈e.ob ρ i
     let ρ1:Nm:=⟨ρ.nm,fun b=>if X b then w.heap[b]? else ρ.mem b,ρ.fp⟩
     have hmem1: ∀ b o,ρ1.mem b=some o→w.heap[b]? =some o:=fun b o hb=>by
      have hb:(if X b then w.heap[b]? else ρ.mem b)=some o:=hb
      split at hb
      ·exact hb
      ·exact hp.hf.dat b o hb
     have hold1: ∀ b o,ρ.mem b=some o→ρ1.mem b=some o:=fun b o hb=>by
      show (if X b then w.heap[b]? else ρ.mem b)=some o
      split
      ·exact hp.hf.dat b o hb
      ·exact hb
     have hX1: ∀ b,X b→ ∃ o,ρ1.mem b=some o:=fun b hb=>by
      show ∃ o,(if X b then w.heap[b]? else ρ.mem b)=some o
      rw [if_pos hb]
      obtain⟨i,e,h1,h2,h3⟩:=hb
      exact⟨_,Array.getElem?_eq_getElem (Entry.ob_lt (hp.he i e h1).1 h3).1⟩
     have hN1: ∀ (i:Nat) (e:Entry) (b:Nat),es[i]? =some e→e.isWk=false→b∈e.ob ρ i→ρ1.mem b=none:=fun i e b h1 h2 h3=>by
      show (if X b then w.heap[b]? else ρ.mem b)=none
      rw [if_neg]
      ·exact(Entry.ob_lt (hp.he i e h1).1 h3).2.2
      ·rintro⟨j,e',g1,g2,g3⟩
       have:=hp.hi i j e e' b h1 g1 h3 g3
       subst this
       rw [h1]at g1;cases g1
       rw [h2]at g2;cases g2
     have fj:(es.map Entry.wkD).length=es.length:=List.length_map ..
     have h1:HpL w mem (es.map Entry.wkD) ρ1 w:=by
      refine⟨fun i e he=> ?_,fun i j e e' b hi hj hb hb'=> ?_,rfl,rfl,rfl,Nat.le_refl _,hp.hf.mem,hmem1,hp.hf.gl.mono hold1⟩
      ·rw [List.getElem?_map,Option.map_eq_some_iff]at he
       obtain⟨e0,h0,rfl⟩:=he
       obtain⟨g1,g2,g3⟩:=hp.he i e0 h0
       refine⟨?_,by rw [fj];exact g2,?_⟩
       ·cases hw:e0.isWk with
        |true=>
         cases e0 with
         |wk e t xs=>
          obtain⟨k1,k2,k3⟩:=g1
          show oF ρ1.mem t (ρ i) xs
          rcases k2 with k2 | ⟨b,off,cap,arr,T,fz,q1,q2,q3,q4,q5⟩
          ·exact .inl k2
          ·by_cases hc:cap=0
           ·subst hc
            have hn:xs.length=0:=by omega
            exact .inl ⟨.inr ⟨_,by rw [q1,hn]⟩,List.length_eq_zero_iff.1 hn⟩
           ·refine .inr ⟨b,off,cap,arr,T,fz,q1,q2,q3,?_,fun j x hx=> ?_⟩
            ·have hXb:X b:=⟨i,_,h0,rfl,by simp only [Entry.ob];rw [q1,gk (by omega)];simp⟩
             show (if X b then w.heap[b]? else ρ.mem b)=_
             rw [if_pos hXb];exact(vr.1 q4).1
            ·rw [Rep.flat t _ _ k1 (q5 j x hx)];exact Rep.of_flat t x k1
         |_=>cases hw
        |false=>
         have hD:e0.wkD=e0:=by cases e0 <;> first | rfl | cases hw
         rw [hD]
         exact Entry.holds_keep (ρ:=ρ) (ρ':=ρ1) (U:=fun _=>true) rfl (fun _ _=>rfl) hold1 rfl (Entry.inU_mono (fun _ _=>rfl) g3) g1 (fun _ _=>rfl) fun b hb=>hN1 i e0 b h0 hw hb
       ·have:e0.wkD.inU (fun i=>Nat.blt i es.length):=by
         cases e0 with
         |wk e t xs=>trivial
         |_=>exact g3
        rw [fj];exact this
      ·rw [List.getElem?_map,Option.map_eq_some_iff]at hi hj
       obtain⟨e0,h0,rfl⟩:=hi
       obtain⟨e0',h0',rfl⟩:=hj
       have yk: ∀ (e:Entry) (i:Nat),b∈e.wkD.ob ρ1 i→b∈e.ob ρ i:=fun e i h=>by
        cases e with
        |wk e t xs=>cases h
        |row own e t xs=>cases own <;> exact h
        |_=>exact h
       exact hp.hi i j e0 e0' b h0 h0' (yk _ _ hb) (yk _ _ hb')
     rw [Gg (ρ:=ρ) (ρ':=ρ1) (fun _=>rfl) args]
     refine(p.ok args (es.map Entry.wkD) o1 ho1 bf mem ρ1 w h1).mono fun e w' ⟨ρ2,hx,he,hl,hr,hh⟩=> ?_
     rw [fj]at hx hl
     have hll:(Hc es o1.es).length=es.length:=by rw [AA,hl]
     have hlen2:(o1.es++o1.new).length=(Hc es o1.es++o1.new).length:=by simp only [List.length_append,AA]
     have pX: ∀ i,i < es.length→ρ2 i=ρ i:=fun i hi=>hx.nm i (by simp only [Nat.blt];exact Nat.ble_eq_true_of_le hi)
     let ρ':Nm:=⟨ρ2.nm,ρ.mem,ρ2.fp⟩
     have hρ': ∀ i,ρ' i=ρ2 i:=fun i=>rfl
     have hold: ∀ b o,ρ.mem b=some o→ρ2.mem b=some o:=fun b o hb=>hx.old b o (hold1 b o hb)
     have hnone: ∀ b,ρ2.mem b=none→ρ.mem b=none:=by
      intro b hb
      cases hm:ρ.mem b with
      |none=>rfl
      |some ob=>rw [hold b ob hm]at hb;cases hb
     have gx: ∀ (i:Nat) (e:Entry),(Hc es o1.es++o1.new)[i]? =some e→(i < es.length∧es[i]? =some e∧e.isWk=true)∨((o1.es++o1.new)[i]? =some e∧e.okW=true):=by
      intro i e hi
      by_cases dE:i < es.length
      ·rw [List.getElem?_append_left (by omega)]at hi
       have he0:es[i]? =some es[i]:=List.getElem?_eq_getElem dE
       rcases Kp he0 hi with⟨h1,rfl⟩ | ⟨h1,h2⟩
       ·exact .inl ⟨dE,he0,h1⟩
       ·exact .inr ⟨by rw [List.getElem?_append_left (by omega)];exact h2,JR cK he0 h1 h2⟩
      ·right
       have hge:es.length≤i:=Nat.le_of_not_lt dE
       rw [List.getElem?_append_right (by omega)]at hi
       exact⟨by rw [List.getElem?_append_right (by omega),hl,← hll];exact hi,hnw _ (List.mem_of_getElem? hi)⟩
     have hobW: ∀ (i:Nat) (e:Entry),i < es.length→e.isWk=true→e.ob ρ' i=e.ob ρ i:=fun i e dE hw=>by
      cases e with
      |wk e t xs=>simp only [Entry.ob];rw [hρ',pX i dE]
      |_=>cases hw
     have hobK: ∀ (i:Nat) (e:Entry),e.okW=true→e.ob ρ' i=e.ob ρ2 i:=fun i e hk=>by
      cases e with
      |gone=>rfl
      |row own e t xs=>cases own <;> first | rfl | cases hk
      |_=>cases hk
     have hwkM: ∀ (i:Nat) (e:Entry) (b:Nat),es[i]? =some e→e.isWk=true→b∈e.ob ρ i→ ∃ o,ρ1.mem b=some o∧ρ2.mem b=some o:=fun i e b h1 h2 h3=>by
      obtain⟨ob,Bq⟩:=hX1 b ⟨i,e,h1,h2,h3⟩
      exact⟨ob,Bq,hx.old b ob Bq⟩
     have dH: ∀ (i:Nat) (e:Entry) (b:Nat),(o1.es++o1.new)[i]? =some e→b∈e.ob ρ2 i→ρ2.mem b=none:=fun i e b hi hb=>(Entry.ob_lt (hh.he i e hi).1 hb).2.2
     refine⟨ρ',⟨fun i hi=> ?_,fun _ _ h=>h,fun _ _ h=> .inl h⟩,he,hll,by rw [← hlen2];exact hr,⟨fun i e hi=> ?_,fun i j e e' b hi hj hb hb'=> ?_,hh.hf.os,hh.hf.tape,hh.hf.output,hh.hf.size,hh.hf.mem,fun b o hb=>hh.hf.dat b o (hold b o hb),hp.hf.gl⟩⟩
     ·rw [hρ'];exact pX i (Nat.le_of_ble_eq_true hi)
     ·rcases gx i e hi with⟨dE,hi',hw⟩ | ⟨hi',hk⟩
      ·obtain⟨g1,g2,g3⟩:=hp.he i e hi'
       refine⟨?_,by simp only [Nat.blt,Nat.ble_eq,List.length_append];omega,?_⟩
       ·cases e with
        |wk e t xs=>
         obtain⟨k1,k2,k3⟩:=g1
         simp only [Entry.holds]
         rw [hρ',pX i dE]
         refine⟨k1,LI k1 k2 fun b hb=> ?_,k3⟩
         obtain⟨ob,m1,m2⟩:=hwkM i _ b hi' rfl hb
         rw [hmem1 b ob m1,hh.hf.dat b ob m2]
        |_=>cases hw
       ·cases e with
        |wk e t xs=>trivial
        |_=>cases hw
      ·obtain⟨g1,g2,g3⟩:=hh.he i e hi'
       refine⟨?_,by rw [← hlen2];exact g2,?_⟩
       ·cases e with
        |gone=>trivial
        |row own e t xs=>
         cases own with
         |false=>cases hk
         |true=>
          obtain⟨cs,k1,k2,k3⟩:=g1
          exact⟨cs,k1,dx.flat hk k2,fun b hb=>⟨(k3 b hb).1,hnone b (k3 b hb).2⟩⟩
        |_=>cases hk
       ·cases e with
        |gone=>trivial
        |row own e t xs=>trivial
        |_=>cases hk
     ·rcases gx i e hi with⟨dE,hi',hw⟩ | ⟨hi',hk⟩
      ·rw [hobW i e dE hw]at hb
       rcases gx j e' hj with⟨hlt',hj',hw'⟩ | ⟨hj',hk'⟩
       ·rw [hobW j e' hlt' hw']at hb'
        exact hp.hi i j e e' b hi' hj' hb hb'
       ·rw [hobK j e' hk']at hb'
        obtain⟨ob,_,m2⟩:=hwkM i e b hi' hw hb
        rw [dH j e' b hj' hb']at m2;cases m2
      ·rw [hobK i e hk]at hb
       rcases gx j e' hj with⟨hlt',hj',hw'⟩ | ⟨hj',hk'⟩
       ·rw [hobW j e' hlt' hw']at hb'
        obtain⟨ob,_,m2⟩:=hwkM j e' b hj' hw' hb'
        rw [dH i e b hi' hb]at m2;cases m2
       ·rw [hobK j e' hk']at hb'
        exact hh.hi i j e e' b hi' hj' hb hb'
   ·cases h
def Entry.isFlat:Entry→Bool
 | .row true _ t _=>t.flat
 |_=>false
theorem Jr{e:Entry}(h:e.isFlat=true):e.isWk=false:=by
 cases e with
 |wk e t xs=>cases h
 |_=>rfl
def sF:List Entry→Option (List Entry)
 | []=>some []
 | .row true e t xs::r=>bif t.flat then(sF r).map (.row true e t xs:: ·)else none
 | .row false e t xs::r=>bif t.flat&&r.all Entry.isFlat then some (.wk e t xs::r)else none
 |_=>none
theorem DS: ∀ {l l':List Entry},sF l=some l'→l'.length=l.length
 | [],l',h=>by simp [sF]at h;subst h;rfl
 | .row true e t xs::r,l',h=>by
  simp only [sF]at h
  cases hf:t.flat with
  |false=>rw [hf]at h;cases h
  |true=>
   rw [hf,cond_true,Option.map_eq_some_iff]at h
   obtain⟨l1,h1,rfl⟩:=h
   simp only [List.length_cons,DS h1]
 | .row false e t xs::r,l',h=>by
  simp only [sF]at h
  cases hf:(t.flat&&r.all Entry.isFlat)with
  |false=>rw [hf]at h;cases h
  |true=>rw [hf]at h;cases h;rfl
 | .box _ _::r,l',h=>by simp [sF]at h
 | .tree _ _ _ _::r,l',h=>by simp [sF]at h
 | .wk _ _ _::r,l',h=>by simp [sF]at h
 | .gone::r,l',h=>by simp [sF]at h
theorem Im: ∀ {l l':List Entry},sF l=some l'→ ∀ (i:Nat) (e:Entry),l'[i]? =some e→
  (l[i]? =some e∧e.isFlat=true)∨(∃ e0 t xs,e= .wk e0 t xs∧t.flat=true∧l[i]? =some (.row false e0 t xs)∧ ∀ j e',l'[j]? =some e'→e'.isWk=true→j=i)
 | [],l',h,i,e,he=>by simp [sF]at h;subst h;simp at he
 | .row true e1 t xs::r,l',h,i,e,he=>by
  simp only [sF]at h
  cases hf:t.flat with
  |false=>rw [hf]at h;cases h
  |true=>
   rw [hf,cond_true,Option.map_eq_some_iff]at h
   obtain⟨l1,h1,rfl⟩:=h
   cases i with
   |zero=>simp only [List.getElem?_cons_zero,Option.some.injEq]at he;subst he;exact .inl ⟨rfl,hf⟩
   |succ i=>
    simp only [List.getElem?_cons_succ]at he ⊢
    rcases Im h1 i e he with h2 | ⟨e0,t',ys,h2,h3,h4,h5⟩
    ·exact .inl h2
    ·refine .inr ⟨e0,t',ys,h2,h3,h4,fun j e' hj hw=> ?_⟩
     cases j with
     |zero=>simp only [List.getElem?_cons_zero,Option.some.injEq]at hj;subst hj;cases hw
     |succ j=>rw [h5 j e' (by simpa using hj) hw]
 | .row false e1 t xs::r,l',h,i,e,he=>by
  simp only [sF]at h
  cases hf:(t.flat&&r.all Entry.isFlat)with
  |false=>rw [hf]at h;cases h
  |true=>
   rw [hf]at h;cases h
   simp only [Bool.and_eq_true]at hf
   have hr:=List.all_eq_true.1 hf.2
   cases i with
   |zero=>
    simp only [List.getElem?_cons_zero,Option.some.injEq]at he;subst he
    refine .inr ⟨e1,t,xs,rfl,hf.1,rfl,fun j e' hj hw=> ?_⟩
    cases j with
    |zero=>rfl
    |succ j=>
     have:=hr e' (List.mem_of_getElem? (by simpa using hj))
     rw [Jr this]at hw;cases hw
   |succ i=>
    simp only [List.getElem?_cons_succ]at he ⊢
    exact .inl ⟨he,hr e (List.mem_of_getElem? he)⟩
 | .box _ _::r,l',h,_,_,_=>by simp [sF]at h
 | .tree _ _ _ _::r,l',h,_,_,_=>by simp [sF]at h
 | .wk _ _ _::r,l',h,_,_,_=>by simp [sF]at h
 | .gone::r,l',h,_,_,_=>by simp [sF]at h
def PF.thaw{P:Program}(p:PF P)(hgt:GT= []):PF P where
 k:=p.k
 F:=fun args es=>bif es.all Entry.isFlat then
   match p.F args es with
   |some o=>bif o.es.all Entry.isFlat then(sF o.new).map fun nw=>⟨o.res,o.es,nw,o.nd⟩else none
   |none=>none
  else none
 ok:=by
  intro args es o h bf mem ρ w hp
  cases ha:es.all Entry.isFlat with
  |false=>rw [ha]at h;cases h
  |true=>
   rw [ha,cond_true]at h
   split at h
   ·rename_i o1 ho1
    cases hf:o1.es.all Entry.isFlat with
    |false=>rw [hf]at h;cases h
    |true=>
     rw [hf,cond_true,Option.map_eq_some_iff]at h
     obtain⟨nw,hnw,rfl⟩:=h
     have JC:=List.all_eq_true.1 ha
     have hfo:=List.all_eq_true.1 hf
     let mem1:Nat→Option Obj:=fun b=>match mem b with | some o=>some o | none=>ρ.mem b
     let ρ1:Nm:=⟨ρ.nm,fun _=>none,ρ.fp⟩
     have pv: ∀ b o,mem b=some o→mem1 b=some o:=fun b o hb=>by show (match mem b with | some o=>some o | none=>ρ.mem b)=_;rw [hb]
     have hdat: ∀ b o,ρ.mem b=some o→mem1 b=some o:=fun b o hb=>by
      show (match mem b with | some o=>some o | none=>ρ.mem b)=_
      cases hm:mem b with
      |none=>exact hb
      |some o'=>
       have h1:=hp.hf.mem b o' hm
       have h2:=hp.hf.dat b o hb
       rw [h1]at h2;exact h2
     have hnone: ∀ b,mem1 b=none→mem b=none∧ρ.mem b=none:=fun b hb=>by
      have hb:(match mem b with | some o=>some o | none=>ρ.mem b)=none:=hb
      cases hm:mem b with
      |none=>rw [hm]at hb;exact⟨rfl,hb⟩
      |some o'=>rw [hm]at hb;cases hb
     have hnone': ∀ b,mem b=none→ρ.mem b=none→mem1 b=none:=fun b h1 h2=>by
      show (match mem b with | some o=>some o | none=>ρ.mem b)=none
      rw [h1];exact h2
     have h1:HpL w mem1 es ρ1 w:=by
      refine⟨fun i e he=> ?_,hp.hi,rfl,rfl,rfl,Nat.le_refl _,fun b o hb=> ?_,(fun _ _ h=>by cases h),fun x hx=>by rw [hgt]at hx;cases hx⟩
      ·obtain⟨g1,g2,g3⟩:=hp.he i e he
       have hfe:=JC e (List.mem_of_getElem? he)
       cases e with
       |row own e t xs=>
        cases own with
        |false=>cases hfe
        |true=>
         obtain⟨cs,k1,k2,k3⟩:=g1
         exact⟨⟨cs,k1,dx.flat hfe k2,fun b hb=>⟨hnone' b (k3 b hb).1 (k3 b hb).2,rfl⟩⟩,g2,g3⟩
       |_=>cases hfe
      ·have hb:(match mem b with | some o=>some o | none=>ρ.mem b)=some o:=hb
       cases hm:mem b with
       |none=>rw [hm]at hb;exact hp.hf.dat b o hb
       |some o'=>rw [hm]at hb;cases hb;exact hp.hf.mem b _ hm
     rw [Gg (ρ:=ρ) (ρ':=ρ1) (fun _=>rfl) args]
     refine(p.ok args es o1 ho1 bf mem1 ρ1 w h1).mono fun e w' ⟨ρ2,hx,he,hl,hr,hh⟩=> ?_
     have hlen2:(o1.es++o1.new).length=(o1.es++nw).length:=by simp only [List.length_append,DS hnw]
     let ρ':Nm:=⟨ρ2.nm,ρ.mem,ρ2.fp⟩
     have hρ': ∀ i,ρ' i=ρ2 i:=fun i=>rfl
     have hfresh: ∀ b o,ρ2.mem b=some o→mem1 b=none∧unf o:=fun b o hb=>by
      rcases hx.new b o hb with h | h
      ·cases h
      ·exact h
     have gx: ∀ (i:Nat) (e:Entry),(o1.es++nw)[i]? =some e→((o1.es++o1.new)[i]? =some e∧e.isFlat=true)∨
       (∃ e0 t xs,e= .wk e0 t xs∧t.flat=true∧(o1.es++o1.new)[i]? =some (.row false e0 t xs)∧ ∀ j e',(o1.es++nw)[j]? =some e'→e'.isWk=true→j=i):=by
      intro i e hi
      by_cases dE:i < o1.es.length
      ·rw [List.getElem?_append_left dE]at hi
       exact .inl ⟨by rw [List.getElem?_append_left dE];exact hi,hfo e (List.mem_of_getElem? hi)⟩
      ·rw [List.getElem?_append_right (by omega)]at hi
       rcases Im hnw _ e hi with⟨h1,h2⟩ | ⟨e0,t,xs,h1,h2,h3,h4⟩
       ·exact .inl ⟨by rw [List.getElem?_append_right (by omega)];exact h1,h2⟩
       ·refine .inr ⟨e0,t,xs,h1,h2,by rw [List.getElem?_append_right (by omega)];exact h3,fun j e' hj hw=> ?_⟩
        by_cases hlj:j < o1.es.length
        ·rw [List.getElem?_append_left hlj]at hj
         have:=hfo e' (List.mem_of_getElem? hj)
         rw [Jr this]at hw;cases hw
        ·rw [List.getElem?_append_right (by omega)]at hj
         have:=h4 _ e' hj hw
         omega
     have hobF: ∀ (i:Nat) (e:Entry),e.isFlat=true→e.ob ρ' i=e.ob ρ2 i:=fun i e hk=>by
      cases e with
      |row own e t xs=>cases own <;> rfl
      |_=>cases hk
     have dH: ∀ (i:Nat) (e:Entry) (b:Nat),(o1.es++o1.new)[i]? =some e→b∈e.ob ρ2 i→ρ2.mem b=none:=fun i e b hi hb=>(Entry.ob_lt (hh.he i e hi).1 hb).2.2
     have hrow: ∀ (i:Nat) (e0:TypeId) (t:CTy) (xs:List (E t)),(o1.es++o1.new)[i]? =some (.row false e0 t xs)→oF ρ2.mem t (ρ2 i) xs:=fun i e0 t xs hi=>(hh.he i _ hi).1
     refine⟨ρ',⟨fun i hi=>hx.nm i hi,fun _ _ h=>h,fun _ _ h=> .inl h⟩,he,hl,by rw [← hlen2];exact hr,⟨fun i e hi=> ?_,fun i j e e' b hi hj hb hb'=> ?_,hh.hf.os,hh.hf.tape,hh.hf.output,hh.hf.size,fun b o hb=>hh.hf.mem b o (pv b o hb),fun b o hb=>hh.hf.mem b o (hdat b o hb),hp.hf.gl⟩⟩
     ·rcases gx i e hi with⟨hi',hk⟩ | ⟨e0,t,xs,rfl,hft,hi',_⟩
      ·obtain⟨g1,g2,g3⟩:=hh.he i e hi'
       cases e with
       |row own e t xs=>
        cases own with
        |false=>cases hk
        |true=>
         obtain⟨cs,k1,k2,k3⟩:=g1
         exact⟨⟨cs,k1,dx.flat hk k2,fun b hb=>hnone b (k3 b hb).1⟩,by rw [← hlen2];exact g2,trivial⟩
       |_=>cases hk
      ·have hrr:=hrow i e0 t xs hi'
       refine⟨⟨hft,?_,fun b hb=> ?_⟩,by rw [← hlen2];exact(hh.he i _ hi').2.1,trivial⟩
       ·rw [hρ']
        exact oF.mono (fun b o hb=>vr.2 ⟨hh.hf.dat b o hb,(hfresh b o hb).2⟩) hrr
       ·rw [hρ']at hb
        obtain⟨o,ho⟩:=hrr.dat hb
        exact hnone b (hfresh b o ho).1
     ·rcases gx i e hi with⟨hi',hk⟩ | ⟨e0,t,xs,rfl,hft,hi',hu⟩
      ·rw [hobF i e hk]at hb
       rcases gx j e' hj with⟨hj',hk'⟩ | ⟨e0',t',xs',rfl,hft',hj',hu'⟩
       ·rw [hobF j e' hk']at hb'
        exact hh.hi i j e e' b hi' hj' hb hb'
       ·obtain⟨ob,Bq⟩:=(hrow j e0' t' xs' hj').dat (b:=b) (by simp only [Entry.ob]at hb';exact hb')
        rw [dH i e b hi' hb]at Bq;cases Bq
      ·rcases gx j e' hj with⟨hj',hk'⟩ | ⟨e0',t',xs',rfl,hft',hj',hu'⟩
       ·rw [hobF j e' hk']at hb'
        obtain⟨ob,Bq⟩:=(hrow i e0 t xs hi').dat (b:=b) (by simp only [Entry.ob]at hb;exact hb)
        rw [dH j e' b hj' hb']at Bq;cases Bq
       ·exact hu' i _ hi rfl
   ·cases h
end Go.SX
