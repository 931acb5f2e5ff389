import Derived.Test.YtcgchjiidpbeoaaGreatDoorTXB
set_option linter.unusedSimpArgs false
set_option linter.unusedVariables false
open List renaming length_set → q8
namespace Go.SX
open Go.RowKit
def Cell.noI(j:Nat)(c:Cell):Bool:= !memN c.ids j
def V1.noI(j:Nat)(v:V1):Bool:=v.cs.all (Cell.noI j)
def SV.noI(j:Nat):SV→Bool
 | .one v=>v.noI j
 | .tup vs=>vs.all (V1.noI j)
def Entry.okV(j:Nat):Entry→Bool
 | .box _ cs=>cs.all (Cell.noI j)
 | .tree _ _ _ (some _)=>false
 |_=>true
theorem Cell.noI_inU{j:Nat}{c:Cell}(h:c.noI j=true):c.inU fun i=> !Nat.beq i j:=by
 have h2: ∀ i∈c.ids,(!Nat.beq i j)=true:=fun i hi=>by
  cases hb:Nat.beq i j with
  |false=>rfl
  |true=>
   rw [Nat.eq_of_beq_eq_true hb]at hi
   simp only [Cell.noI,memN_mem.2 hi]at h
   cases h
 cases c with
 |val v=>trivial
 |ptr id off=>exact h2 id (by simp [Cell.ids])
 |ref id=>exact h2 id (by simp [Cell.ids])
 |el id z i off=>exact h2 id (by simp [Cell.ids])
 |vw id z k=>exact h2 id (by simp [Cell.ids])
 |clo f caps=>exact fun id lN=>h2 id lN
 |bnd f vs=>exact fun id lN=>h2 id lN
theorem V1.noI_inU{j:Nat}{v:V1}(h:v.noI j=true):v.inU fun i=> !Nat.beq i j:=
 fun c hc=>Cell.noI_inU (List.all_eq_true.1 h c hc)
theorem SV.noI_inU{j:Nat}{v:SV}(h:v.noI j=true):v.inU fun i=> !Nat.beq i j:=by
 cases v with
 |one v=>exact V1.noI_inU h
 |tup vs=>exact fun v hv=>V1.noI_inU (List.all_eq_true.1 h v hv)
section
variable{B:Base}{ρ ρ':Nm}{w:World}{j:Nat}
theorem at6{i j:Nat}(h:(!Nat.beq i j)=true):i≠j:=by
 intro he
 subst he
 simp at h
theorem anp{i j:Nat}(h:i≠j):Nat.beq i j=false:=by
 cases hb:Nat.beq i j with
 |false=>rfl
 |true=>exact(h (Nat.eq_of_beq_eq_true hb)).elim
theorem awo{e:Entry}{id:Nat}(hk:e.okV j=true)(hn: ∀ i,i≠j→ρ' i=ρ i)(hm:ρ'.mem=ρ.mem)(hf: ∀ i,ρ'.fp i=ρ.fp i)(lN:id≠j)(h:e.holds B ρ w id):e.holds B ρ' w id:=by
 cases e with
 |box T cs=>
  obtain⟨b,h1,h2,h3,h4⟩:=h
  refine⟨b,by rw [hn id lN];exact h1,?_,h3,by rw [hm];exact h4⟩
  rw [xZ (U:=fun i=> !Nat.beq i j) (fun i hi=>hn i (at6 hi)) (fun c hc=>Cell.noI_inU (List.all_eq_true.1 hk c hc))]
  exact h2
 |row own e t xs=>
  cases own with
  |false=>simp only [Entry.holds]at h ⊢;rw [hn id lN,hm];exact h
  |true=>simp only [Entry.holds]at h ⊢;rw [hn id lN,hm];exact h
 |tree e t xs ho=>
  cases ho with
  |some q=>cases hk
  |none=>
   obtain⟨cs,Ls,k1,k2,k3,k4,k5⟩:=h
   simp only [Entry.holds]
   rw [hn id lN,hf id,hm]
   exact⟨cs,Ls,k1,k2.keep (fun _ _=>rfl) (fun _ _ h=>by cases h),k3,k4,k5⟩
 |wk e t xs=>simp only [Entry.holds]at h ⊢;rw [hn id lN,hm];exact h
 |gone=>trivial
theorem axA{e:Entry}{id:Nat}(hn: ∀ i,i≠j→ρ' i=ρ i)(hf: ∀ i,ρ'.fp i=ρ.fp i)(lN:id≠j):e.ob ρ' id=e.ob ρ id:=by
 cases e with
 |row own e t xs=>cases own <;> simp only [Entry.ob,hn id lN]
 |_=>simp only [Entry.ob,hn id lN,hf id]
theorem Hp.dataTo{ent:Nat→Option Entry}{used:Nat→Bool}(h:Hp B ρ ent used w)(hj:used j=true){v:Value}{e:TypeId}{t:CTy}{ys:List (E t)}(zK:IX ρ.mem t (Pk v) ys)
  (hno: ∀ id e,id≠j→ent id=some e→e.okV j=true):Hp B (upd ρ j v) (fun i=>bif Nat.beq i j then some (.row false e t ys)else ent i) used w:=by
 have hn: ∀ i,i≠j→upd ρ j v i=ρ i:=fun i hi=>by simp only [Nm.of,upd,anp hi,cond_false]
 have hv:upd ρ j v j=Pk v:=by simp [Nm.of,upd]
 have hsp: ∀ id e2,(bif Nat.beq id j then some (Entry.row false e t ys)else ent id)=some e2→(id=j∧e2= .row false e t ys)∨(id≠j∧ent id=some e2):=fun id e2 h2=>by
  by_cases lN:id=j
  ·subst lN
   simp only [Nat.beq_refl,cond_true,Option.some.injEq]at h2
   exact .inl ⟨rfl,h2.symm⟩
  ·rw [anp lN]at h2;exact .inr ⟨lN,h2⟩
 refine⟨fun id e2 h2=> ?_,fun id id' e1 e2 b h1 h2 hb hb'=> ?_,⟨h.hf.os,h.hf.tape,h.hf.output,h.hf.size,h.hf.mem,h.hf.dat,h.hf.gl⟩⟩
 ·rcases hsp id e2 h2 with⟨rfl,rfl⟩ | ⟨lN,h2⟩
  ·refine⟨?_,hj,trivial⟩
   simp only [Entry.holds,hv]
   exact zK
  ·obtain⟨q1,q2,q3⟩:=h.he id e2 h2
   exact⟨awo (hno id e2 lN h2) hn rfl (fun _=>rfl) lN q1,q2,q3⟩
 ·rcases hsp id e1 h1 with⟨rfl,rfl⟩ | ⟨lN,h1⟩
  ·cases hb
  ·rcases hsp id' e2 h2 with⟨rfl,rfl⟩ | ⟨hid',h2⟩
   ·cases hb'
   ·rw [axA hn (fun _=>rfl) lN]at hb
    rw [axA hn (fun _=>rfl) hid']at hb'
    exact h.hi id id' e1 e2 b h1 h2 hb hb'
end
def asB:List SV→Option (List SV×(Nat×Nat×Nat)×List SV)
 | []=>none
 | .one ⟨false,[.vw j z k]⟩::r=>some ([],(j,z,k),r)
 |v::r=>match asB r with
  |some (a,q,c)=>some (v::a,q,c)
  |none=>none
theorem arz: ∀ {args a c:List SV} {q:Nat×Nat×Nat},asB args=some (a,q,c)→args=a++one (.vw q.1 q.2.1 q.2.2)::c
 | [],_,_,_,h=>by cases h
 |v::r,a,c,q,h=>by
  unfold asB at h
  split at h
  ·cases h
  ·rename_i Zp
   injection Zp with h1 h2
   subst h1 h2
   cases h;rfl
  ·rename_i Zp
   injection Zp with h1 h2
   subst h1 h2
   split at h
   ·rename_i a' q' c' hs
    cases h
    rw [arz hs];rfl
   ·cases h
def PF.view{P:Program}(p:PF P):PF P where
 k:=p.k
 F:=fun args es=>match asB args with
  |some (a,(j,z,k),c)=>match es[j]? with
   |some (.row false e t xs)=>bif Nat.beq z t.size&&(a.all (SV.noI j)&&(c.all (SV.noI j)&&es.all (Entry.okV j)))then
     match p.F (a++one (.ref j)::c) (es.set j (.row false e t (xs.drop k)))with
     |some o=>bif o.res.noI j&&(o.es++o.new).all (Entry.okV j)then some ⟨o.res,o.es.set j (.row false e t xs),o.new,decide (k≤xs.length)::o.nd⟩else none
     |none=>none
    else none
   |_=>none
  |none=>none
 ok:=by
  intro args es o h cL mem ρ w hp
  split at h
  ·rename_i a j z k c hs
   have Mn:=arz hs
   split at h
   ·rename_i e t xs hej
    cases hc:(Nat.beq z t.size&&(a.all (SV.noI j)&&(c.all (SV.noI j)&&es.all (Entry.okV j))))with
    |false=>rw [hc]at h;cases h
    |true=>
     rw [hc,cond_true]at h
     simp only [Bool.and_eq_true]at hc
     obtain⟨hz,ha,hcc,lO⟩:=hc
     have hz:=Nat.eq_of_beq_eq_true hz
     split at h
     ·rename_i o1 ho1
      cases hc2:(o1.res.noI j&&(o1.es++o1.new).all (Entry.okV j))with
      |false=>rw [hc2]at h;cases h
      |true=>
       rw [hc2,cond_true]at h
       simp only [Bool.and_eq_true]at hc2
       cases h
       have hkl:k≤xs.length:=by simpa using cL _ (List.mem_cons_self ..)
       have hjl:=(List.getElem?_eq_some_iff.1 hej).1
       have hrow:IX ρ.mem t (ρ j) xs:=(hp.he j _ hej).1
       have hpart:IX ρ.mem t (Pk (vwN z k (ρ j))) (xs.drop k):=by
        have hsl: ∃ b cap,ρ j= .slice b xs.length cap:=by
         rcases hrow with⟨hv,hn⟩ | ⟨b,off,cap,arr,T,fz,hv,_⟩
         ·subst hn;obtain⟨b0,hb0⟩:=Yg hv;exact⟨b0,0,hb0⟩
         ·exact⟨_,cap,hv⟩
        obtain⟨b,cap,hv⟩:=hsl
        have hq:=IX.part (z:=z) hrow (l:=k) (m:=xs.length) hkl (Nat.le_refl _) hz hv
        rw [List.take_length]at hq
        have hz0: ¬ z=0:=by rw [hz];exact avU t
        rw [hv]
        simp only [vwN,if_neg hz0,Pk]
        exact hq
       have hj1:Nat.blt j es.length=true:=Nat.ble_eq_true_of_le hjl
       have hp1:=Hp.dataTo (j:=j) (v:=vwN z k (ρ j)) (e:=e) hp hj1 hpart fun id e2 _ h2=>List.all_eq_true.1 lO e2 (List.mem_of_getElem? h2)
       have he1:(fun i=>bif Nat.beq i j then some (Entry.row false e t (xs.drop k))else es[i]?)=fun i=>(es.set j (.row false e t (xs.drop k)))[i]? :=by
        funext i
        rw [List.getElem?_set]
        by_cases hij:i=j
        ·subst hij;simp [hjl]
        ·rw [anp hij,if_neg (fun h=>hij h.symm)];rfl
       rw [he1]at hp1
       have hp1:HpL w mem (es.set j (.row false e t (xs.drop k))) (upd ρ j (vwN z k (ρ j))) w:=by
        unfold HpL
        rw [q8]
        exact hp1
       have hn1: ∀ i,i≠j→upd ρ j (vwN z k (ρ j)) i=ρ i:=fun i hi=>by simp only [Nm.of,upd,anp hi,cond_false]
       have hconc: ∀ l:List SV,l.all (SV.noI j)=true→l.map (SV.conc (upd ρ j (vwN z k (ρ j))))=l.map (SV.conc ρ):=fun l hl=>
        List.map_congr_left fun v hv=>SV.conc_congr (U:=fun i=> !Nat.beq i j) (fun i hi=>hn1 i (at6 hi)) (SV.noI_inU (List.all_eq_true.1 hl v hv))
       have hv1:(one (.vw j z k)).conc ρ=(one (.ref j)).conc (upd ρ j (vwN z k (ρ j))):=by
        simp only [one,SV.conc,V1.conc,Cell.conc]
        simp [Nm.of,upd]
       have hA:args.map (SV.conc ρ)=(a++one (.ref j)::c).map (SV.conc (upd ρ j (vwN z k (ρ j)))):=by
        rw [Mn,List.map_append,List.map_append,List.map_cons,List.map_cons,hconc a ha,hconc c hcc,← hv1]
       rw [hA]
       refine(p.ok _ _ o1 ho1 (fun b hb=>cL b (List.mem_cons_of_mem _ hb)) mem _ w hp1).mono fun ex w' ⟨ρ2,hx,he,hl,hr,hh⟩=> ?_
       rw [q8]at hx hl
       have hjo:j < o1.es.length:=by omega
       have hn3: ∀ i,i≠j→upd ρ2 j (ρ.nm j) i=ρ2 i:=fun i hi=>by simp only [Nm.of,upd,anp hi,cond_false]
       have hrow2:IX ρ2.mem t (Pk (ρ.nm j)) xs:=IX.mono hx.old hrow
       have hj2:Nat.blt j (o1.es++o1.new).length=true:=Nat.ble_eq_true_of_le (by rw [List.length_append];omega)
       have hp3:=Hp.dataTo (j:=j) (v:=ρ.nm j) (e:=e) hh hj2 hrow2 fun id e2 _ h2=>List.all_eq_true.1 hc2.2 e2 (List.mem_of_getElem? h2)
       have he3:(fun i=>bif Nat.beq i j then some (Entry.row false e t xs)else(o1.es++o1.new)[i]?)=fun i=>(o1.es.set j (.row false e t xs)++o1.new)[i]? :=by
        funext i
        by_cases hij:i=j
        ·rw [hij]
         rw [Nat.beq_refl,cond_true,List.getElem?_append_left (by rw [q8];exact hjo),List.getElem?_set_self hjo]
        ·rw [anp hij,cond_false]
         by_cases hlt:i < o1.es.length
         ·rw [List.getElem?_append_left hlt,List.getElem?_append_left (by rw [q8];exact hlt),List.getElem?_set_ne (Ne.symm hij)]
         ·rw [List.getElem?_append_right (by omega),List.getElem?_append_right (by rw [q8];omega),q8]
       rw [he3]at hp3
       refine⟨upd ρ2 j (ρ.nm j),⟨fun i hi=> ?_,hx.old,hx.new⟩,?_,by rw [q8];exact hl,?_,?_⟩
       ·by_cases hij:i=j
        ·subst hij;simp [Nm.of,upd]
        ·rw [hn3 i hij,hx.nm i hi,hn1 i hij]
       ·rw [he]
        rw [SV.conc_congr (U:=fun i=> !Nat.beq i j) (fun i hi=>hn3 i (at6 hi)) (SV.noI_inU hc2.1)]
       ·have:(o1.es.set j (.row false e t xs)++o1.new).length=(o1.es++o1.new).length:=by simp only [List.length_append,q8]
        rw [this];exact hr
       ·unfold HpL
        have:(o1.es.set j (.row false e t xs)++o1.new).length=(o1.es++o1.new).length:=by simp only [List.length_append,q8]
        rw [this];exact hp3
     ·cases h
   ·cases h
  ·cases h
end Go.SX
namespace Go.SX
open Go.RowKit
def PF.alt{P:Program}(p:PF P)(F:List SV→List Entry→Option Out)
  (h: ∀ args es o,F args es=some o→(∀ b∈o.nd,b=true)→ ∃ o',p.F args es=some o'∧(∀ b∈o'.nd,b=true)∧o'.res=o.res∧o'.es=o.es∧o'.new=o.new):PF P where
 k:=p.k
 F:=F
 ok:=by
  intro args es o ho cL mem ρ w hp
  obtain⟨o',h1,h2,h3,h4,h5⟩:=h args es o ho cL
  rw [← h3,← h4,← h5]
  exact p.ok args es o' h1 h2 mem ρ w hp
 keep:=p.keep
 hk:=by
  intro args es o ho cL
  obtain⟨o',h1,h2,_,h4,_⟩:=h args es o ho cL
  rw [← h4]
  exact p.hk args es o' h1 h2
theorem jv{b:Bool}(h:b=true): ∀ c∈ [b],c=true:=fun c hc=>by rw [List.mem_singleton]at hc;rw [hc];exact h
theorem kO{b:Bool}{l:List Bool}(h: ∀ c∈b::l,c=true):b=true:=h b (by simp)
theorem qm{P:Program}{p:PF P}{args:List SV}{es:List Entry}{o o':Out}(h1:p.F args es=some o')(h2: ∀ b∈o'.nd,b=true)(h3:o'.res=o.res)(h4:o'.es=o.es)(h5:o'.new=o.new):
  ∃ o',p.F args es=some o'∧(∀ b∈o'.nd,b=true)∧o'.res=o.res∧o'.es=o.es∧o'.new=o.new:=⟨o',h1,h2,h3,h4,h5⟩
variable{A B:Type}
end Go.SX
namespace Go.SX
open Go.RowKit
def leI(a b:Int):Bool:=decide (a≤b)
def ltI(a b:Int):Bool:=decide (a < b)
def eqI(a b:Int):Bool:=decide (a=b)
def neI(a b:Int):Bool:=decide (a≠b)
def leN(a b:Nat):Bool:=decide (a≤b)
def ltN(a b:Nat):Bool:=decide (a < b)
@[simp] theorem zJ{a b:Int}:leI a b=true↔a≤b:=by simp [leI]
@[simp] theorem Sa{a b:Int}:ltI a b=true↔a < b:=by simp [ltI]
@[simp] theorem azV{a b:Int}:eqI a b=true↔a=b:=by simp [eqI]
@[simp] theorem ays{a b:Int}:neI a b=true↔a≠b:=by simp [neI]
@[simp] theorem azZ{a b:Int}:neI a b=false↔a=b:=by simp [neI]
theorem azP{a b:Int}(h:a≠b):neI a b=true:=ays.2 h
@[simp] theorem eN{a b:Nat}:leN a b=true↔a≤b:=by simp [leN]
@[simp] theorem aym{a b:Nat}:ltN a b=true↔a < b:=by simp [ltN]
@[simp] theorem avD{a b:Int}:leI a b=false↔b < a:=by simp [leI]
@[simp] theorem Yj{a b:Int}:ltI a b=false↔b≤a:=by simp [ltI]
@[simp] theorem azW{a b:Int}:eqI a b=false↔a≠b:=by simp [eqI]
@[simp] theorem ayk{a b:Nat}:leN a b=false↔b < a:=by simp [leN]
@[simp] theorem ayn{a b:Nat}:ltN a b=false↔b≤a:=by simp [ltN]
@[simp] theorem azN(a:Int):ltI a a=false:=Yj.2 (Int.le_refl _)
@[simp] theorem azG(a:Int):leI a a=true:=zJ.2 (Int.le_refl _)
@[simp] theorem azO(a:Nat):ltN a a=false:=ayn.2 (Nat.le_refl _)
@[simp] theorem azI(a:Nat):leN a a=true:=eN.2 (Nat.le_refl _)
@[simp] theorem azx(a:Int):ltI (a.toNat:Int) a=false:=Yj.2 (by omega)
@[simp] theorem azM(a:Int):ltI 0 (a - (a.toNat:Int))=false:=Yj.2 (by omega)
def azD{α:Type}(a b:Int)(x y:α):α:=if a≤b then x else y
def anf{α:Type}(a b:Int)(x y:α):α:=if a < b then x else y
def azC{α:Type}(a b:Int)(x y:α):α:=if a=b then x else y
@[simp] theorem azY{α:Type}{a b:Int}{x y:α}:azD a b x y=bif leI a b then x else y:=by unfold azD leI;by_cases h:a≤b <;> simp [h]
@[simp] theorem avA{α:Type}{a b:Int}{x y:α}:anf a b x y=bif ltI a b then x else y:=by unfold anf ltI;by_cases h:a < b <;> simp [h]
@[simp] theorem azX{α:Type}{a b:Int}{x y:α}:azC a b x y=bif eqI a b then x else y:=by unfold azC eqI;by_cases h:a=b <;> simp [h]
theorem bx{a b:Int}(h:a≤b):leI a b=true:=zJ.2 h
theorem dL{a b:Int}(h:a < b):ltI a b=true:=Sa.2 h
theorem aY{a b:Nat}(h:a≤b):leN a b=true:=eN.2 h
theorem er{a b:Nat}(h:a < b):ltN a b=true:=aym.2 h
theorem aj0{a b:Int}(h:b < a):leI a b=false:=avD.2 h
theorem Ej{a b:Int}(h:b≤a):ltI a b=false:=Yj.2 h
theorem azH{a b:Nat}(h:b < a):leN a b=false:=ayk.2 h
variable{X A B:Type}
def LT.nds:LT X→Bool
 | .nrm _ _=>true
 | .ext _ _=>true
 | .need nd t=>bif allT nd then t.nds else false
 | .ite b t e=>bif b then t.nds else e.nds
def LT.fn(pr:X→A):LT X→Nat ⊕ A
 | .nrm x _=> .inr (pr x)
 | .ext j _=> .inl j
 | .need _ t=>t.fn pr
 | .ite b t e=>bif b then t.fn pr else e.fn pr
theorem LT.out_of{st1:A→X}{pr:X→A}: ∀ {t:LT X},t.nds=true→t.each (fun y=>y=st1 (pr y))→t.out=some (match t.fn pr with | .inl j=> .inl j | .inr a=> .inr (st1 a))
 | .nrm x _,_,h=>by simp only [LT.out,LT.fn];rw [← show x=st1 (pr x) from h]
 | .ext j _,_,_=>rfl
 | .need nd t,hn,h=>by
  simp only [LT.nds]at hn
  simp only [LT.out,LT.fn]
  cases hd:allT nd with
  |true=>rw [hd,cond_true]at hn;rw [cond_true];exact LT.out_of (t:=t) hn h
  |false=>rw [hd]at hn;cases hn
 | .ite b t e,hn,h=>by
  simp only [LT.nds]at hn
  simp only [LT.out,LT.fn]
  cases b with
  |true=>exact LT.out_of (t:=t) hn h.1
  |false=>exact LT.out_of (t:=e) hn h.2
theorem Lp.along(p:Lp X)(st:Nat→A→X)(pr:X→A)(f:B→A→Nat ⊕ A)(e:Nat)(Inv:Nat→A→Prop)(xs:List B)(a:A)
  (h0:Inv 0 a) (hf:xs.length≤p.fuel (st 0 a))
  (hs: ∀ i b a,xs[i]? =some b→Inv i a→(p.lt (st i a)).nds=true∧(p.lt (st i a)).each (fun y=>y=st (i + 1) (pr y))∧(p.lt (st i a)).fn pr=f b a∧ ∀ a',f b a= .inr a'→Inv (i + 1) a')
  (he: ∀ a,Inv xs.length a→(p.lt (st xs.length a)).out=some (.inl e)):
  p.fin (st 0 a)=true∧p.res (st 0 a)=((bz f e xs 0 a).1,st (bz f e xs 0 a).2.1 (bz f e xs 0 a).2.2):=by
 refine p.walk st f e Inv xs (fun i b a hb hI=> ?_) he a h0 hf
 obtain⟨h1,h2,h3,h4⟩:=hs i b a hb hI
 refine⟨?_,h4⟩
 rw [LT.out_of h1 h2,h3]
 cases f b a <;> rfl
theorem UZ{n i b:Nat}(h:(List.range n)[i]? =some b):b=i∧i < n:=by
 obtain⟨h1,h2⟩:=List.getElem?_eq_some_iff.1 h
 simp at h1 h2
 exact⟨h2.symm,h1⟩
theorem lA{f:B→A→Nat ⊕ A}{P:B→Bool}{e j:Nat}{a:A}(hf: ∀ b,f b a=bif P b then .inl j else .inr a): ∀ {r:List B} {i:Nat},
  bz f e r i a=(bif r.any P then j else e,i + (r.takeWhile fun b=> !P b).length,a)
 | [],i=>by simp [bz]
 |b::r,i=>by
  simp only [bz,List.any_cons,List.takeWhile_cons,hf]
  cases hb:P b with
  |false=>
   simp only [cond_false]
   rw [lA hf (r:=r)]
   simp;omega
  |true=>simp
theorem awE{C:Type}[DecidableEq C]{xs ys:List C}{d:C}(h:ys.length=xs.length){P:Nat→Bool}(hP: ∀ b,P b= !decide (xs[b]?.getD d=ys[b]?.getD d)):(List.range xs.length).any P= !decide (xs=ys):=by
 by_cases he:xs=ys
 ·subst he
  simp [hP]
 ·have hd:decide (xs=ys)=false:=decide_eq_false he
  rw [hd]
  cases ha:(List.range xs.length).any P with
  |true=>rfl
  |false=>
   exfalso
   apply he
   rw [List.any_eq_false]at ha
   refine List.ext_getElem (by omega) fun i h1 h2=> ?_
   have hx:=ha i (List.mem_range.2 h1)
   rw [hP i]at hx
   simp only [Bool.not_eq_true',decide_eq_false_iff_not,Decidable.not_not,List.getElem?_eq_getElem h1,List.getElem?_eq_getElem h2,Option.getD_some]at hx
   exact hx
end Go.SX
namespace Go.SX
theorem HpL.emptyS{w:World}{mem:Nat→Option Obj}{own:Bool}{e:TypeId}{t:CTy}{ρ:Nm}(hp:HpL w mem [.row own e t []] ρ w):ρ 0= .slice none 0 0∨ ∃ a c,ρ 0= .slice (some a) 0 c:=by
 obtain⟨hh,_,_⟩:=hp.he 0 _ rfl
 have hz:aj8 (ρ 0)→ρ 0= .slice none 0 0∨ ∃ a c,ρ 0= .slice (some a) 0 c:=fun h=>by
  rcases h with h | ⟨a,h⟩
  ·exact .inl h
  ·exact .inr ⟨a,0,h⟩
 cases own with
 |false=>
  rcases hh with⟨h4,_⟩ | ⟨b,off,cap,arr,T',fz,h4,_⟩
  ·exact hz h4
  ·exact .inr ⟨_,_,h4⟩
 |true=>
  obtain⟨cs,h4,_⟩:=hh
  rcases h4.2 with⟨hv,_⟩ | ⟨g,cap,cur,hv,_⟩
  ·exact hz hv
  ·exact .inr ⟨_,_,hv⟩
theorem HpL.join0{w w':World}{mem:Nat→Option Obj}{own:Bool}{e:TypeId}{t:CTy}{ρ ρ1:Nm}{v1:Value}(hp:HpL w mem [.row own e t []] ρ w)
  (hX:Ext (memB w fun b=>w.heap[b]?) (fun i=>Nat.blt i 0) ρ ρ1) (hf:Frm (memB w fun b=>w.heap[b]?) ρ1 w') (hs1:Pk v1=v1)
  (hr: ∃ cs,Mh w' e t.size v1 0 cs∧qu ρ1.mem t cs []∧ ∀ b∈jQ v1,w.heap[b]? =none∧ρ1.mem b=none):
  ∃ ρ':Nm,ρ' 1=v1∧Ext (memB w mem) (fun i=>Nat.blt i 1) ρ ρ'∧HpL w mem [.row own e t [],.row true e t []] ρ' w':=by
 have hold: ∀ b o,w.heap[b]? =some o→w'.heap[b]? =some o:=fun b o h=>hf.mem b o h
 have Oj: ∀ b,w.heap[b]? =none→mem b=none:=fun b h=>by
  cases hm:mem b with
  |none=>rfl
  |some o=>rw [hp.hf.mem b o hm]at h;cases h
 have hs0:Pk (ρ 0)=ρ 0:=by rcases hp.emptyS with h | ⟨a,c,h⟩ <;> rw [h] <;> rfl
 refine⟨⟨fun i=>bif Nat.beq i 0 then ρ 0 else v1,ρ1.mem,ρ1.fp⟩,hs1,⟨fun id lN=> ?_,fun b o h=>hX.old b o h,fun b o h=> ?_⟩,?_⟩
 ·have:id=0:=by simpa using lN
  subst this
  exact hs0
 ·rcases hX.new b o h with h | ⟨h,hu⟩
  ·exact .inl h
  ·exact .inr ⟨Oj b h,hu⟩
 ·have hob: ∀ b,own=true→b∈jQ (ρ 0)→(∃ o,w.heap[b]? =some o)∧mem b=none∧ρ.mem b=none:=fun b ho hb=>by
   subst ho
   obtain⟨⟨cs,h4,_,h6⟩,_,_⟩:=hp.he 0 _ rfl
   exact⟨by
    rcases h4.2 with⟨hv,_⟩ | ⟨g,cap,cur,hv,hc,hg,_⟩
    ·rcases hv with hv | ⟨a,hv⟩ <;> rw [hv]at hb <;> simp [jQ]at hb
    ·rw [hv,uu hc]at hb
     have:=List.mem_singleton.1 hb
     subst this
     exact⟨_,hg⟩,h6 b hb⟩
  refine⟨fun id en hen=> ?_,fun id id' en en' b h1 h2 h3 h4=> ?_,⟨hf.os,hf.tape,hf.output,hf.size,fun b o h=>hold b o (hp.hf.mem b o h),hf.dat,hf.gl⟩⟩
  ·match id with
   |0=>
    simp at hen;subst hen
    refine⟨?_,rfl,trivial⟩
    obtain⟨hh,_,_⟩:=hp.he 0 _ rfl
    cases own with
    |false=>
     show IX ρ1.mem t (Pk (ρ 0)) []
     rw [hs0]
     exact IX.mono hX.old hh
    |true=>
     obtain⟨cs,h4,h5,h6⟩:=hh
     refine⟨cs,?_,qu.mono hX.old h5,fun b hb=> ?_⟩
     ·show Mh w' e t.size (Pk (ρ 0)) 0 cs
      rw [hs0]
      exact Sc h4 fun b hb=>by
       obtain⟨⟨o,ho⟩,_⟩:=hob b rfl hb
       rw [ho];exact hold b o ho
     ·have hb:b∈jQ (ρ 0):=by rw [← hs0];exact hb
      obtain⟨⟨o,ho⟩,q1,q2⟩:=hob b rfl hb
      refine⟨q1,?_⟩
      show ρ1.mem b=none
      cases hm:ρ1.mem b with
      |none=>rfl
      |some o'=>
       rcases hX.new b o' hm with h | ⟨h,_⟩
       ·rw [q2]at h;cases h
       ·have h:w.heap[b]? =none:=h
        rw [ho]at h;cases h
   |1=>
    simp at hen;subst hen
    refine⟨?_,rfl,trivial⟩
    obtain⟨cs,h4,h5,h6⟩:=hr
    refine⟨cs,?_,h5,fun b hb=> ?_⟩
    ·show Mh w' e t.size (Pk v1) 0 cs
     rw [hs1];exact h4
    ·have hb:b∈jQ v1:=by rw [← hs1];exact hb
     exact⟨Oj b (h6 b hb).1,(h6 b hb).2⟩
   |i + 2=>simp at hen
  ·have oe: ∀ b,b∈(Entry.row own e t []).ob ⟨fun i=>bif Nat.beq i 0 then ρ 0 else v1,ρ1.mem,ρ1.fp⟩ 0→b∈(Entry.row true e t []).ob ⟨fun i=>bif Nat.beq i 0 then ρ 0 else v1,ρ1.mem,ρ1.fp⟩ 1→False:=fun b hb hb'=>by
    obtain⟨_,_,_,h6⟩:=hr
    cases own with
    |false=>cases hb
    |true=>
     have hb:b∈jQ (Pk (ρ 0)):=hb
     have hb':b∈jQ (Pk v1):=hb'
     rw [hs0]at hb;rw [hs1]at hb'
     obtain⟨⟨o,ho⟩,_⟩:=hob b rfl hb
     rw [(h6 b hb').1]at ho;cases ho
   match id,id' with
   |0,0=>rfl
   |1,1=>rfl
   |0,1=>simp at h1 h2;subst h1 h2;exact(oe b h3 h4).elim
   |1,0=>simp at h1 h2;subst h1 h2;exact(oe b h4 h3).elim
   |i + 2,_=>simp at h1
   |_,i + 2=>simp at h2
theorem arP{P:Program}{k:FuncId}{e:TypeId}{t:CTy}{ndn nds:List Bool}(pn ps:PF P)(hn:pn.k=k)(hs:ps.k=k)
  (fn:pn.F [.one ⟨false,[.val (.slice none 0 0)]⟩] []=some ⟨.one ⟨false,[.ref 0]⟩,[],[.row true e t []],ndn⟩)
  (fs: ∀ a c,ps.F [.one ⟨false,[.val (.slice (some a) 0 c)]⟩] []=some ⟨.one ⟨false,[.ref 0]⟩,[],[.row true e t []],nds⟩)
  (dn: ∀ b∈ndn,b=true) (ds: ∀ b∈nds,b=true) {own:Bool} {mem:Nat→Option Obj} {ρ:Nm} {w:World} (hp:HpL w mem [.row own e t []] ρ w):
  Calls P k ([SV.one ⟨false,[.ref 0]⟩].map (SV.conc ρ)).toArray w fun en w'=> ∃ ρ':Nm,Ext (memB w mem) (fun i=>Nat.blt i 1) ρ ρ'∧en= .returned ((SV.one ⟨false,[.ref 1]⟩).conc ρ')∧
   HpL w mem [.row own e t [],.row true e t []] ρ' w':=by
 have h0:HpL w (fun b=>w.heap[b]?) [] ρ w:=⟨fun id en h=>by simp at h,fun id id' en en' b h _ _ _=>by simp at h,⟨hp.hf.os,hp.hf.tape,hp.hf.output,hp.hf.size,fun b o h=>h,hp.hf.dat,hp.hf.gl⟩⟩
 rcases hp.emptyS with hv | ⟨a,c,hv⟩
 ·have hc:=pn.ok _ _ _ fn dn (fun b=>w.heap[b]?) ρ w h0
  rw [hn]at hc
  have ha:([SV.one ⟨false,[.ref 0]⟩].map (SV.conc ρ)).toArray=([SV.one ⟨false,[.val (.slice none 0 0)]⟩].map (SV.conc ρ)).toArray:=by simp [SV.conc,V1.conc,Cell.conc,hv]
  rw [ha]
  refine hc.mono fun en w' ⟨ρ1,hX,he,_,_,hH⟩=> ?_
  obtain⟨⟨cs,h4,h5,h6⟩,_,_⟩:=hH.he 0 _ rfl
  obtain⟨ρ',g1,g2,g3⟩:=hp.join0 (v1:=ρ1 0) hX hH.hf (vF h4) ⟨cs,h4,h5,h6⟩
  exact⟨ρ',g2,by rw [he];simp [SV.conc,V1.conc,Cell.conc,g1],g3⟩
 ·have hc:=ps.ok _ _ _ (fs a c) ds (fun b=>w.heap[b]?) ρ w h0
  rw [hs]at hc
  have ha:([SV.one ⟨false,[.ref 0]⟩].map (SV.conc ρ)).toArray=([SV.one ⟨false,[.val (.slice (some a) 0 c)]⟩].map (SV.conc ρ)).toArray:=by simp [SV.conc,V1.conc,Cell.conc,hv]
  rw [ha]
  refine hc.mono fun en w' ⟨ρ1,hX,he,_,_,hH⟩=> ?_
  obtain⟨⟨cs,h4,h5,h6⟩,_,_⟩:=hH.he 0 _ rfl
  obtain⟨ρ',g1,g2,g3⟩:=hp.join0 (v1:=ρ1 0) hX hH.hf (vF h4) ⟨cs,h4,h5,h6⟩
  exact⟨ρ',g2,by rw [he];simp [SV.conc,V1.conc,Cell.conc,g1],g3⟩
end Go.SX
