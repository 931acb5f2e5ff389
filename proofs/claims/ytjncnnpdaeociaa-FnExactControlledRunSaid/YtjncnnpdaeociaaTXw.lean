import Derived.Test.YtjncnnpdaeociaaTXh
set_option linter.unusedSimpArgs false
set_option linter.unusedVariables false
namespace Go.SX
open Go.RowKit
theorem JA{f f':Frame}{cs cs':List Frame}{w w':World}(h:lone f cs w=lone f' cs' w'):f=f':=by
 simp only [lone,Machine.mk.injEq,Array.mk.injEq,List.cons.injEq,Goroutine.mk.injEq]at h
 exact h.2.1.1.1
theorem CE{P:Program}{m m1 m2:Machine}(hs:step P m= .next m1)(h:Steps P m m2)(sZ:m≠m2):Steps P m1 m2:=by
 obtain⟨n,hn⟩:=h
 cases n with
 |zero=>simp only [runN,Stepped.next.injEq]at hn;exact(sZ hn).elim
 |succ n=>simp only [runN,hs]at hn;exact⟨n,hn⟩
theorem Ky{id:Nat}(k:List Item): ∀ k':List Item,exitTo id k=some k'→k'.length≤k.length:=by
 induction k with
 |nil=>intro k' h;simp [exitTo]at h
 |cons x r ih=>
  intro k' h
  have im:exitTo id r=some k'→k'.length≤(x::r).length:=fun h=>by have:=ih k' h;rw [List.length_cons];omega
  cases x with
  |inBlock id'=>
   simp only [exitTo]at h
   split at h
   ·simp only [Option.some.injEq]at h;subst h;simp
   ·exact im h
  |_=>simp only [exitTo]at h;exact im h
theorem Oj{P:Program}{c:Code}{Q:Exit→Act→World→Prop}{a:Act}{w:World}(h:(Code.loop c).wp P Q a w)(hQ: ∀ e a w,Q e a w→e= .normal∨(∃ id,e= .exit id)∨e= .ret)(b:Frame)(k:List Item)(cs:List Frame):
  ∃ e a' w',Q e a' w'∧Arrives P (lone (b.at a (.code c:: .inLoop c::k)) cs w) b k cs e a' w':=by
 obtain⟨e,a',w',hq,harr⟩:=h b k cs
 have fb: ∀ k':List Item,k'.length≤k.length→ ∀ (a':Act) (w':World),lone (b.at a (.code (.loop c)::k)) cs w≠lone (b.at a' k') cs w':=fun k' hk a' w' he=>by
  have:=congrArg Frame.todo (JA he)
  simp only [Frame.at]at this
  rw [← this]at hk
  simp at hk;omega
 refine⟨e,a',w',hq,?_⟩
 rcases hQ _ _ _ hq with rfl | ⟨id,rfl⟩ | rfl
 ·exact CE step_loop harr (fb k (Nat.le_refl _) a' w')
 ·exact fun k' hk=>CE step_loop (harr k' hk) (fb k' (Ky k k' hk) a' w')
 ·obtain⟨todo,ht⟩:=harr
  refine⟨todo,CE step_loop ht fun he=> ?_⟩
  have:=congrArg Frame.mode (JA he)
  simp [Frame.at]at this
theorem IK{P:Program}{c:Code}{Q:Exit→Act→World→Prop}{a:Act}{w:World}(hQ: ∀ e a w,Q e a w→e= .normal∨(∃ id,e= .exit id)∨e= .ret)
  (h:c.wp P (fun e a' w'=>match e with | .normal=>(Code.loop c).wp P Q a' w' | e=>Q e a' w') a w):(Code.loop c).wp P Q a w:=by
 intro b k cs
 obtain⟨e,a₁,w₁,hq,harr⟩:=h b (.inLoop c::k) cs
 cases e with
 |normal=>
  obtain⟨e₂,a₂,w₂,hq₂,harr₂⟩:=Oj hq hQ b k cs
  exact⟨e₂,a₂,w₂,hq₂,.of_steps (.one step_loop) (.of_steps (Steps.trans harr (.one step_inLoop)) harr₂)⟩
 |exit id=>exact⟨_,a₁,w₁,hq,.of_steps (.one step_loop) (.pass (x:= .inLoop c) rfl (fun _ _=> .inl (by simp)) harr)⟩
 |goto l=>exact⟨_,a₁,w₁,hq,.of_steps (.one step_loop) (.pass (x:= .inLoop c) rfl (fun _ _=> .inl (by simp)) harr)⟩
 |ret=>exact⟨_,a₁,w₁,hq,.of_steps (.one step_loop) (.pass (x:= .inLoop c) rfl (fun _ _=> .inl (by simp)) harr)⟩
 |panic ch=>exact⟨_,a₁,w₁,hq,.of_steps (.one step_loop) (.pass (x:= .inLoop c) rfl (fun _ _=> .inl (by simp)) harr)⟩
 |outgrown=>exact⟨_,a₁,w₁,hq,.of_steps (.one step_loop) (.pass (x:= .inLoop c) rfl (fun _ _=> .inl (by simp)) harr)⟩
theorem LoopOk.peel{P:Program}{tbl:List (PF P)}{W:Nat→Bool}{F:St→R}{b:Code}{lf:List (St→R)}(cf:P.follows .mixedOrders=true)(hl:LOk P W lf b)(h:LoopOk P W F b):
  LoopOk P W (fun s=>(rE P tbl W lf b s).bind F) b where
 ok:=by
  intro B s post hW hp ρ a w hM
  have hb:=R.sat_bind hp
  subst hW
  have hx:=R.sat_and hb (Bd (P:=P) (tbl:=tbl) (W:=B.W) lf b s hl)
  refine IK (fun e a w hq=> ?_) (wp_mono (jk cf lf b s _ hl hx ρ a w hM) fun e a' w' ⟨q,s',ρ',he,ni,hM',hq,hus⟩=> ?_)
  ·obtain⟨x,_,_,rfl,_⟩:=hq
   cases x with
   |normal=>exact .inl rfl
   |exit id=>exact .inr (.inl ⟨id,rfl⟩)
   |ret=>exact .inr (.inr rfl)
  ·subst he
   cases q with
   |normal=>
    refine wp_mono (h.ok B s' post rfl hq ρ' a' w' hM') fun e a2 w2 ⟨x,s2,ρ2,he,hag2,hM2,hp2⟩=> ?_
    exact⟨x,s2,ρ2,he,ni.trans hag2 fun id ef=>hus id ef,hM2,hp2⟩
   |exit id=>exact⟨.exit id,s',ρ',rfl,ni,hM',hq⟩
   |ret=>exact⟨.ret,s',ρ',rfl,ni,hM',hq⟩
 un:=fun s=>R.all_bind (fun s1 _=>h.un s1) (oe lf b s hl)
def Entry.isWk:Entry→Bool
 | .wk _ _ _=>true
 |_=>false
def Entry.wkD:Entry→Entry
 | .wk e t xs=> .row false e t xs
 |e=>e
def GL:List Entry→List Entry→List Entry
 |e0::r0,e::r=>(bif e0.isWk then e0 else e)::GL r0 r
 |_,l=>l
theorem AZ: ∀ (es l:List Entry),(GL es l).length=l.length
 | [],l=>by cases l <;> rfl
 |_::_,[]=>rfl
 |e0::r0,e::r=>by simp only [GL,List.length_cons,AZ r0 r]
theorem Ke: ∀ {es l:List Entry} {i:Nat} {e0 e2:Entry},es[i]? =some e0→(GL es l)[i]? =some e2→(e0.isWk=true∧e2=e0)∨(e0.isWk=false∧l[i]? =some e2)
 | [],l,i,e0,e2,h0,h=>by simp at h0
 |_::_,[],i,e0,e2,h0,h=>by simp [GL]at h
 |e::r0,e'::r,0,e0,e2,h0,h=>by
  simp only [List.getElem?_cons_zero,Option.some.injEq]at h0
  subst h0
  simp only [GL,List.getElem?_cons_zero,Option.some.injEq]at h
  cases hq:e.isWk with
  |true=>left;rw [hq]at h;exact⟨rfl,h.symm⟩
  |false=>right;rw [hq]at h;exact⟨rfl,by rw [← h];rfl⟩
 |e::r0,e'::r,i + 1,e0,e2,h0,h=>by
  simp only [GL,List.getElem?_cons_succ]at h0 h ⊢
  exact Ke h0 h
def Entry.okW:Entry→Bool
 | .gone=>true
 | .row true _ t _=>t.flat
 |_=>false
def LR:List Entry→List Entry→Bool
 |e0::r0,e::r=>(e0.isWk||e.okW)&&LR r0 r
 |_,_=>true
theorem JD: ∀ {es l:List Entry} {i:Nat} {e0 e:Entry},LR es l=true→es[i]? =some e0→e0.isWk=false→l[i]? =some e→e.okW=true
 | [],l,i,e0,e,_,h0,_,_=>by simp at h0
 |_::_,[],i,e0,e,_,_,_,h=>by simp at h
 |f0::r0,f::r,0,e0,e,hk,h0,hr,h=>by
  simp only [List.getElem?_cons_zero,Option.some.injEq]at h0 h
  subst h0 h
  simp only [LR,hr,Bool.false_or,Bool.and_eq_true]at hk
  exact hk.1
 |f0::r0,f::r,i + 1,e0,e,hk,h0,hr,h=>by
  simp only [LR,Bool.and_eq_true]at hk
  simp only [List.getElem?_cons_succ]at h0 h
  exact JD hk.2 h0 hr h
theorem On(v:SV):v.inU fun _=>true:=by
 have hc: ∀ c:Cell,c.inU fun _=>true:=fun c=>by cases c <;> simp [Cell.inU]
 cases v with
 |one v=>exact fun c _=>hc c
 |tup vs=>exact fun v _ c _=>hc c
theorem FT{ρ ρ':Nm}(h: ∀ i,ρ' i=ρ i)(args:List SV):args.map (SV.conc ρ)=args.map (SV.conc ρ'):=
 List.map_congr_left fun v _=>(SV.conc_congr (U:=fun _=>true) (fun i _=>h i) (On v)).symm
open Classical in
def PF.lendW{P:Program}(p:PF P):PF P where
 k:=p.k
 F:=fun args es=>bif es.any Entry.isWk then
   match p.F args (es.map Entry.wkD)with
   |some o=>bif o.new.all Entry.okW&&LR es o.es then some ⟨o.res,GL es o.es,o.new,o.nd⟩else none
   |none=>none
  else none
 ok:=by
  intro args es o h bh mem ρ w hp
  cases ha:es.any Entry.isWk with
  |false=>rw [ha]at h;cases h
  |true=>
   rw [ha,cond_true]at h
   split at h
   ·rename_i o1 ho1
    cases hf:(o1.new.all Entry.okW&&LR es o1.es)with
    |false=>rw [hf]at h;cases h
    |true=>
     rw [hf,cond_true]at h
     cases h
     simp only [Bool.and_eq_true]at hf
     have cI:=hf.2
     have hnw:=List.all_eq_true.1 hf.1
     let X:Nat→Prop:=fun b=> ∃ (i:Nat) (e:Entry),es[i]? =some e∧e.isWk=true∧b∈e.ob ρ i
     let ρ1:Nm:=⟨ρ.nm,fun b=>if X b then w.heap[b]? else ρ.mem b,ρ.fp⟩
     have hmem1: ∀ b o,ρ1.mem b=some o→w.heap[b]? =some o:=fun b o hb=>by
      have hb:(if X b then w.heap[b]? else ρ.mem b)=some o:=hb
      split at hb
      ·exact hb
      ·exact hp.hf.dat b o hb
     have hold1: ∀ b o,ρ.mem b=some o→ρ1.mem b=some o:=fun b o hb=>by
      show (if X b then w.heap[b]? else ρ.mem b)=some o
      split
      ·exact hp.hf.dat b o hb
      ·exact hb
     have hX1: ∀ b,X b→ ∃ o,ρ1.mem b=some o:=fun b hb=>by
      show ∃ o,(if X b then w.heap[b]? else ρ.mem b)=some o
      rw [if_pos hb]
      obtain⟨i,e,h1,h2,h3⟩:=hb
      exact⟨_,Array.getElem?_eq_getElem (Entry.ob_lt (hp.he i e h1).1 h3).1⟩
     have hN1: ∀ (i:Nat) (e:Entry) (b:Nat),es[i]? =some e→e.isWk=false→b∈e.ob ρ i→ρ1.mem b=none:=fun i e b h1 h2 h3=>by
      show (if X b then w.heap[b]? else ρ.mem b)=none
      rw [if_neg]
      ·exact(Entry.ob_lt (hp.he i e h1).1 h3).2.2
      ·rintro⟨j,e',g1,g2,g3⟩
       have:=hp.hi i j e e' b h1 g1 h3 g3
       subst this
       rw [h1]at g1;cases g1
       rw [h2]at g2;cases g2
     have fb:(es.map Entry.wkD).length=es.length:=List.length_map ..
     have h1:HpL w mem (es.map Entry.wkD) ρ1 w:=by
      refine⟨fun i e he=> ?_,fun i j e e' b hi hj hb hb'=> ?_,rfl,rfl,rfl,Nat.le_refl _,hp.hf.mem,hmem1,hp.hf.gl.mono hold1⟩
      ·rw [List.getElem?_map,Option.map_eq_some_iff]at he
       obtain⟨e0,h0,rfl⟩:=he
       obtain⟨g1,g2,g3⟩:=hp.he i e0 h0
       refine⟨?_,by rw [fb];exact g2,?_⟩
       ·cases hw:e0.isWk with
        |true=>
         cases e0 with
         |wk e t xs=>
          obtain⟨k1,k2,k3⟩:=g1
          show oH ρ1.mem t (ρ i) xs
          rcases k2 with k2 | ⟨b,off,cap,arr,T,fz,q1,q2,q3,q4,q5⟩
          ·exact .inl k2
          ·by_cases hc:cap=0
           ·subst hc
            have hn:xs.length=0:=by omega
            exact .inl ⟨.inr ⟨_,by rw [q1,hn]⟩,List.length_eq_zero_iff.1 hn⟩
           ·refine .inr ⟨b,off,cap,arr,T,fz,q1,q2,q3,?_,fun j x hx=> ?_⟩
            ·have hXb:X b:=⟨i,_,h0,rfl,by simp only [Entry.ob];rw [q1,gr (by omega)];simp⟩
             show (if X b then w.heap[b]? else ρ.mem b)=_
             rw [if_pos hXb];exact(vI.1 q4).1
            ·rw [Rep.flat t _ _ k1 (q5 j x hx)];exact Rep.of_flat t x k1
         |_=>cases hw
        |false=>
         have hD:e0.wkD=e0:=by cases e0 <;> first | rfl | cases hw
         rw [hD]
         exact Entry.holds_keep (ρ:=ρ) (ρ':=ρ1) (U:=fun _=>true) rfl (fun _ _=>rfl) hold1 rfl (Entry.inU_mono (fun _ _=>rfl) g3) g1 (fun _ _=>rfl) fun b hb=>hN1 i e0 b h0 hw hb
       ·have:e0.wkD.inU (fun i=>Nat.blt i es.length):=by
         cases e0 with
         |wk e t xs=>trivial
         |_=>exact g3
        rw [fb];exact this
      ·rw [List.getElem?_map,Option.map_eq_some_iff]at hi hj
       obtain⟨e0,h0,rfl⟩:=hi
       obtain⟨e0',h0',rfl⟩:=hj
       have yy: ∀ (e:Entry) (i:Nat),b∈e.wkD.ob ρ1 i→b∈e.ob ρ i:=fun e i h=>by
        cases e with
        |wk e t xs=>cases h
        |row own e t xs=>cases own <;> exact h
        |_=>exact h
       exact hp.hi i j e0 e0' b h0 h0' (yy _ _ hb) (yy _ _ hb')
     rw [FT (ρ:=ρ) (ρ':=ρ1) (fun _=>rfl) args]
     refine(p.ok args (es.map Entry.wkD) o1 ho1 bh mem ρ1 w h1).mono fun e w' ⟨ρ2,hx,he,hl,hr,hh⟩=> ?_
     rw [fb]at hx hl
     have hll:(GL es o1.es).length=es.length:=by rw [AZ,hl]
     have hlen2:(o1.es++o1.new).length=(GL es o1.es++o1.new).length:=by simp only [List.length_append,AZ]
     have qD: ∀ i,i < es.length→ρ2 i=ρ i:=fun i hi=>hx.nm i (by simp only [Nat.blt];exact Nat.ble_eq_true_of_le hi)
     let ρ':Nm:=⟨ρ2.nm,ρ.mem,ρ2.fp⟩
     have hρ': ∀ i,ρ' i=ρ2 i:=fun i=>rfl
     have hold: ∀ b o,ρ.mem b=some o→ρ2.mem b=some o:=fun b o hb=>hx.old b o (hold1 b o hb)
     have hnone: ∀ b,ρ2.mem b=none→ρ.mem b=none:=by
      intro b hb
      cases hm:ρ.mem b with
      |none=>rfl
      |some ob=>rw [hold b ob hm]at hb;cases hb
     have iC: ∀ (i:Nat) (e:Entry),(GL es o1.es++o1.new)[i]? =some e→(i < es.length∧es[i]? =some e∧e.isWk=true)∨((o1.es++o1.new)[i]? =some e∧e.okW=true):=by
      intro i e hi
      by_cases dw:i < es.length
      ·rw [List.getElem?_append_left (by omega)]at hi
       have he0:es[i]? =some es[i]:=List.getElem?_eq_getElem dw
       rcases Ke he0 hi with⟨h1,rfl⟩ | ⟨h1,h2⟩
       ·exact .inl ⟨dw,he0,h1⟩
       ·exact .inr ⟨by rw [List.getElem?_append_left (by omega)];exact h2,JD cI he0 h1 h2⟩
      ·right
       have hge:es.length≤i:=Nat.le_of_not_lt dw
       rw [List.getElem?_append_right (by omega)]at hi
       exact⟨by rw [List.getElem?_append_right (by omega),hl,← hll];exact hi,hnw _ (List.mem_of_getElem? hi)⟩
     have hobW: ∀ (i:Nat) (e:Entry),i < es.length→e.isWk=true→e.ob ρ' i=e.ob ρ i:=fun i e dw hw=>by
      cases e with
      |wk e t xs=>simp only [Entry.ob];rw [hρ',qD i dw]
      |_=>cases hw
     have hobK: ∀ (i:Nat) (e:Entry),e.okW=true→e.ob ρ' i=e.ob ρ2 i:=fun i e hk=>by
      cases e with
      |gone=>rfl
      |row own e t xs=>cases own <;> first | rfl | cases hk
      |_=>cases hk
     have hwkM: ∀ (i:Nat) (e:Entry) (b:Nat),es[i]? =some e→e.isWk=true→b∈e.ob ρ i→ ∃ o,ρ1.mem b=some o∧ρ2.mem b=some o:=fun i e b h1 h2 h3=>by
      obtain⟨ob,BH⟩:=hX1 b ⟨i,e,h1,h2,h3⟩
      exact⟨ob,BH,hx.old b ob BH⟩
     have dE: ∀ (i:Nat) (e:Entry) (b:Nat),(o1.es++o1.new)[i]? =some e→b∈e.ob ρ2 i→ρ2.mem b=none:=fun i e b hi hb=>(Entry.ob_lt (hh.he i e hi).1 hb).2.2
     refine⟨ρ',⟨fun i hi=> ?_,fun _ _ h=>h,fun _ _ h=> .inl h⟩,he,hll,by rw [← hlen2];exact hr,⟨fun i e hi=> ?_,fun i j e e' b hi hj hb hb'=> ?_,hh.hf.os,hh.hf.tape,hh.hf.output,hh.hf.size,hh.hf.mem,fun b o hb=>hh.hf.dat b o (hold b o hb),hp.hf.gl⟩⟩
     ·rw [hρ'];exact qD i (Nat.le_of_ble_eq_true hi)
     ·rcases iC i e hi with⟨dw,hi',hw⟩ | ⟨hi',hk⟩
      ·obtain⟨g1,g2,g3⟩:=hp.he i e hi'
       refine⟨?_,by simp only [Nat.blt,Nat.ble_eq,List.length_append];omega,?_⟩
       ·cases e with
        |wk e t xs=>
         obtain⟨k1,k2,k3⟩:=g1
         simp only [Entry.holds]
         rw [hρ',qD i dw]
         refine⟨k1,LA k1 k2 fun b hb=> ?_,k3⟩
         obtain⟨ob,m1,m2⟩:=hwkM i _ b hi' rfl hb
         rw [hmem1 b ob m1,hh.hf.dat b ob m2]
        |_=>cases hw
       ·cases e with
        |wk e t xs=>trivial
        |_=>cases hw
      ·obtain⟨g1,g2,g3⟩:=hh.he i e hi'
       refine⟨?_,by rw [← hlen2];exact g2,?_⟩
       ·cases e with
        |gone=>trivial
        |row own e t xs=>
         cases own with
         |false=>cases hk
         |true=>
          obtain⟨cs,k1,k2,k3⟩:=g1
          exact⟨cs,k1,dr.flat hk k2,fun b hb=>⟨(k3 b hb).1,hnone b (k3 b hb).2⟩⟩
        |_=>cases hk
       ·cases e with
        |gone=>trivial
        |row own e t xs=>trivial
        |_=>cases hk
     ·rcases iC i e hi with⟨dw,hi',hw⟩ | ⟨hi',hk⟩
      ·rw [hobW i e dw hw]at hb
       rcases iC j e' hj with⟨hlt',hj',hw'⟩ | ⟨hj',hk'⟩
       ·rw [hobW j e' hlt' hw']at hb'
        exact hp.hi i j e e' b hi' hj' hb hb'
       ·rw [hobK j e' hk']at hb'
        obtain⟨ob,_,m2⟩:=hwkM i e b hi' hw hb
        rw [dE j e' b hj' hb']at m2;cases m2
      ·rw [hobK i e hk]at hb
       rcases iC j e' hj with⟨hlt',hj',hw'⟩ | ⟨hj',hk'⟩
       ·rw [hobW j e' hlt' hw']at hb'
        obtain⟨ob,_,m2⟩:=hwkM j e' b hj' hw' hb'
        rw [dE i e b hi' hb]at m2;cases m2
       ·rw [hobK j e' hk']at hb'
        exact hh.hi i j e e' b hi' hj' hb hb'
   ·cases h
def Entry.isFlat:Entry→Bool
 | .row true _ t _=>t.flat
 |_=>false
theorem Jh{e:Entry}(h:e.isFlat=true):e.isWk=false:=by
 cases e with
 |wk e t xs=>cases h
 |_=>rfl
def ta:List Entry→Option (List Entry)
 | []=>some []
 | .row true e t xs::r=>bif t.flat then(ta r).map (.row true e t xs:: ·)else none
 | .row false e t xs::r=>bif t.flat&&r.all Entry.isFlat then some (.wk e t xs::r)else none
 |_=>none
theorem DI: ∀ {l l':List Entry},ta l=some l'→l'.length=l.length
 | [],l',h=>by simp [ta]at h;subst h;rfl
 | .row true e t xs::r,l',h=>by
  simp only [ta]at h
  cases hf:t.flat with
  |false=>rw [hf]at h;cases h
  |true=>
   rw [hf,cond_true,Option.map_eq_some_iff]at h
   obtain⟨l1,h1,rfl⟩:=h
   simp only [List.length_cons,DI h1]
 | .row false e t xs::r,l',h=>by
  simp only [ta]at h
  cases hf:(t.flat&&r.all Entry.isFlat)with
  |false=>rw [hf]at h;cases h
  |true=>rw [hf]at h;cases h;rfl
 | .box _ _::r,l',h=>by simp [ta]at h
 | .tree _ _ _ _::r,l',h=>by simp [ta]at h
 | .wk _ _ _::r,l',h=>by simp [ta]at h
 | .gone::r,l',h=>by simp [ta]at h
theorem HT: ∀ {l l':List Entry},ta l=some l'→ ∀ (i:Nat) (e:Entry),l'[i]? =some e→
  (l[i]? =some e∧e.isFlat=true)∨(∃ e0 t xs,e= .wk e0 t xs∧t.flat=true∧l[i]? =some (.row false e0 t xs)∧ ∀ j e',l'[j]? =some e'→e'.isWk=true→j=i)
 | [],l',h,i,e,he=>by simp [ta]at h;subst h;simp at he
 | .row true e1 t xs::r,l',h,i,e,he=>by
  simp only [ta]at h
  cases hf:t.flat with
  |false=>rw [hf]at h;cases h
  |true=>
   rw [hf,cond_true,Option.map_eq_some_iff]at h
   obtain⟨l1,h1,rfl⟩:=h
   cases i with
   |zero=>simp only [List.getElem?_cons_zero,Option.some.injEq]at he;subst he;exact .inl ⟨rfl,hf⟩
   |succ i=>
    simp only [List.getElem?_cons_succ]at he ⊢
    rcases HT h1 i e he with h2 | ⟨e0,t',ys,h2,h3,h4,h5⟩
    ·exact .inl h2
    ·refine .inr ⟨e0,t',ys,h2,h3,h4,fun j e' hj hw=> ?_⟩
     cases j with
     |zero=>simp only [List.getElem?_cons_zero,Option.some.injEq]at hj;subst hj;cases hw
     |succ j=>rw [h5 j e' (by simpa using hj) hw]
 | .row false e1 t xs::r,l',h,i,e,he=>by
  simp only [ta]at h
  cases hf:(t.flat&&r.all Entry.isFlat)with
  |false=>rw [hf]at h;cases h
  |true=>
   rw [hf]at h;cases h
   simp only [Bool.and_eq_true]at hf
   have hr:=List.all_eq_true.1 hf.2
   cases i with
   |zero=>
    simp only [List.getElem?_cons_zero,Option.some.injEq]at he;subst he
    refine .inr ⟨e1,t,xs,rfl,hf.1,rfl,fun j e' hj hw=> ?_⟩
    cases j with
    |zero=>rfl
    |succ j=>
     have:=hr e' (List.mem_of_getElem? (by simpa using hj))
     rw [Jh this]at hw;cases hw
   |succ i=>
    simp only [List.getElem?_cons_succ]at he ⊢
    exact .inl ⟨he,hr e (List.mem_of_getElem? he)⟩
 | .box _ _::r,l',h,_,_,_=>by simp [ta]at h
 | .tree _ _ _ _::r,l',h,_,_,_=>by simp [ta]at h
 | .wk _ _ _::r,l',h,_,_,_=>by simp [ta]at h
 | .gone::r,l',h,_,_,_=>by simp [ta]at h
def PF.thaw{P:Program}(p:PF P)(hgt:GT= []):PF P where
 k:=p.k
 F:=fun args es=>bif es.all Entry.isFlat then
   match p.F args es with
   |some o=>bif o.es.all Entry.isFlat then(ta o.new).map fun nw=>⟨o.res,o.es,nw,o.nd⟩else none
   |none=>none
  else none
 ok:=by
  intro args es o h bh mem ρ w hp
  cases ha:es.all Entry.isFlat with
  |false=>rw [ha]at h;cases h
  |true=>
   rw [ha,cond_true]at h
   split at h
   ·rename_i o1 ho1
    cases hf:o1.es.all Entry.isFlat with
    |false=>rw [hf]at h;cases h
    |true=>
     rw [hf,cond_true,Option.map_eq_some_iff]at h
     obtain⟨nw,hnw,rfl⟩:=h
     have Jo:=List.all_eq_true.1 ha
     have hfo:=List.all_eq_true.1 hf
     let mem1:Nat→Option Obj:=fun b=>match mem b with | some o=>some o | none=>ρ.mem b
     let ρ1:Nm:=⟨ρ.nm,fun _=>none,ρ.fp⟩
     have pM: ∀ b o,mem b=some o→mem1 b=some o:=fun b o hb=>by show (match mem b with | some o=>some o | none=>ρ.mem b)=_;rw [hb]
     have hdat: ∀ b o,ρ.mem b=some o→mem1 b=some o:=fun b o hb=>by
      show (match mem b with | some o=>some o | none=>ρ.mem b)=_
      cases hm:mem b with
      |none=>exact hb
      |some o'=>
       have h1:=hp.hf.mem b o' hm
       have h2:=hp.hf.dat b o hb
       rw [h1]at h2;exact h2
     have hnone: ∀ b,mem1 b=none→mem b=none∧ρ.mem b=none:=fun b hb=>by
      have hb:(match mem b with | some o=>some o | none=>ρ.mem b)=none:=hb
      cases hm:mem b with
      |none=>rw [hm]at hb;exact⟨rfl,hb⟩
      |some o'=>rw [hm]at hb;cases hb
     have hnone': ∀ b,mem b=none→ρ.mem b=none→mem1 b=none:=fun b h1 h2=>by
      show (match mem b with | some o=>some o | none=>ρ.mem b)=none
      rw [h1];exact h2
     have h1:HpL w mem1 es ρ1 w:=by
      refine⟨fun i e he=> ?_,hp.hi,rfl,rfl,rfl,Nat.le_refl _,fun b o hb=> ?_,(fun _ _ h=>by cases h),fun x hx=>by rw [hgt]at hx;cases hx⟩
      ·obtain⟨g1,g2,g3⟩:=hp.he i e he
       have hfe:=Jo e (List.mem_of_getElem? he)
       cases e with
       |row own e t xs=>
        cases own with
        |false=>cases hfe
        |true=>
         obtain⟨cs,k1,k2,k3⟩:=g1
         exact⟨⟨cs,k1,dr.flat hfe k2,fun b hb=>⟨hnone' b (k3 b hb).1 (k3 b hb).2,rfl⟩⟩,g2,g3⟩
       |_=>cases hfe
      ·have hb:(match mem b with | some o=>some o | none=>ρ.mem b)=some o:=hb
       cases hm:mem b with
       |none=>rw [hm]at hb;exact hp.hf.dat b o hb
       |some o'=>rw [hm]at hb;cases hb;exact hp.hf.mem b _ hm
     rw [FT (ρ:=ρ) (ρ':=ρ1) (fun _=>rfl) args]
     refine(p.ok args es o1 ho1 bh mem1 ρ1 w h1).mono fun e w' ⟨ρ2,hx,he,hl,hr,hh⟩=> ?_
     have hlen2:(o1.es++o1.new).length=(o1.es++nw).length:=by simp only [List.length_append,DI hnw]
     let ρ':Nm:=⟨ρ2.nm,ρ.mem,ρ2.fp⟩
     have hρ': ∀ i,ρ' i=ρ2 i:=fun i=>rfl
     have hfresh: ∀ b o,ρ2.mem b=some o→mem1 b=none∧unf o:=fun b o hb=>by
      rcases hx.new b o hb with h | h
      ·cases h
      ·exact h
     have iC: ∀ (i:Nat) (e:Entry),(o1.es++nw)[i]? =some e→((o1.es++o1.new)[i]? =some e∧e.isFlat=true)∨
       (∃ e0 t xs,e= .wk e0 t xs∧t.flat=true∧(o1.es++o1.new)[i]? =some (.row false e0 t xs)∧ ∀ j e',(o1.es++nw)[j]? =some e'→e'.isWk=true→j=i):=by
      intro i e hi
      by_cases dw:i < o1.es.length
      ·rw [List.getElem?_append_left dw]at hi
       exact .inl ⟨by rw [List.getElem?_append_left dw];exact hi,hfo e (List.mem_of_getElem? hi)⟩
      ·rw [List.getElem?_append_right (by omega)]at hi
       rcases HT hnw _ e hi with⟨h1,h2⟩ | ⟨e0,t,xs,h1,h2,h3,h4⟩
       ·exact .inl ⟨by rw [List.getElem?_append_right (by omega)];exact h1,h2⟩
       ·refine .inr ⟨e0,t,xs,h1,h2,by rw [List.getElem?_append_right (by omega)];exact h3,fun j e' hj hw=> ?_⟩
        by_cases hlj:j < o1.es.length
        ·rw [List.getElem?_append_left hlj]at hj
         have:=hfo e' (List.mem_of_getElem? hj)
         rw [Jh this]at hw;cases hw
        ·rw [List.getElem?_append_right (by omega)]at hj
         have:=h4 _ e' hj hw
         omega
     have hobF: ∀ (i:Nat) (e:Entry),e.isFlat=true→e.ob ρ' i=e.ob ρ2 i:=fun i e hk=>by
      cases e with
      |row own e t xs=>cases own <;> rfl
      |_=>cases hk
     have dE: ∀ (i:Nat) (e:Entry) (b:Nat),(o1.es++o1.new)[i]? =some e→b∈e.ob ρ2 i→ρ2.mem b=none:=fun i e b hi hb=>(Entry.ob_lt (hh.he i e hi).1 hb).2.2
     have hrow: ∀ (i:Nat) (e0:TypeId) (t:CTy) (xs:List (E t)),(o1.es++o1.new)[i]? =some (.row false e0 t xs)→oH ρ2.mem t (ρ2 i) xs:=fun i e0 t xs hi=>(hh.he i _ hi).1
     refine⟨ρ',⟨fun i hi=>hx.nm i hi,fun _ _ h=>h,fun _ _ h=> .inl h⟩,he,hl,by rw [← hlen2];exact hr,⟨fun i e hi=> ?_,fun i j e e' b hi hj hb hb'=> ?_,hh.hf.os,hh.hf.tape,hh.hf.output,hh.hf.size,fun b o hb=>hh.hf.mem b o (pM b o hb),fun b o hb=>hh.hf.mem b o (hdat b o hb),hp.hf.gl⟩⟩
     ·rcases iC i e hi with⟨hi',hk⟩ | ⟨e0,t,xs,rfl,hft,hi',_⟩
      ·obtain⟨g1,g2,g3⟩:=hh.he i e hi'
       cases e with
       |row own e t xs=>
        cases own with
        |false=>cases hk
        |true=>
         obtain⟨cs,k1,k2,k3⟩:=g1
         exact⟨⟨cs,k1,dr.flat hk k2,fun b hb=>hnone b (k3 b hb).1⟩,by rw [← hlen2];exact g2,trivial⟩
       |_=>cases hk
      ·have hrr:=hrow i e0 t xs hi'
       refine⟨⟨hft,?_,fun b hb=> ?_⟩,by rw [← hlen2];exact(hh.he i _ hi').2.1,trivial⟩
       ·rw [hρ']
        exact oH.mono (fun b o hb=>vI.2 ⟨hh.hf.dat b o hb,(hfresh b o hb).2⟩) hrr
       ·rw [hρ']at hb
        obtain⟨o,ho⟩:=hrr.dat hb
        exact hnone b (hfresh b o ho).1
     ·rcases iC i e hi with⟨hi',hk⟩ | ⟨e0,t,xs,rfl,hft,hi',hu⟩
      ·rw [hobF i e hk]at hb
       rcases iC j e' hj with⟨hj',hk'⟩ | ⟨e0',t',xs',rfl,hft',hj',hu'⟩
       ·rw [hobF j e' hk']at hb'
        exact hh.hi i j e e' b hi' hj' hb hb'
       ·obtain⟨ob,BH⟩:=(hrow j e0' t' xs' hj').dat (b:=b) (by simp only [Entry.ob]at hb';exact hb')
        rw [dE i e b hi' hb]at BH;cases BH
      ·rcases iC j e' hj with⟨hj',hk'⟩ | ⟨e0',t',xs',rfl,hft',hj',hu'⟩
       ·rw [hobF j e' hk']at hb'
        obtain⟨ob,BH⟩:=(hrow i e0 t xs hi').dat (b:=b) (by simp only [Entry.ob]at hb;exact hb)
        rw [dE j e' b hj' hb']at BH;cases BH
       ·exact hu' i _ hi rfl
   ·cases h
end Go.SX
