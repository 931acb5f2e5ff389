/- Codes and memories, in plain words: the functions. -/
import Derived.Test.YtepaifhehlpbaaaDoorNn
namespace Go.SX
open Go.Proofs
set_option maxRecDepth 100000

/-- The heights' end. -/
def hgtOk (i v o : Int) (bs : List TM) (st : List IN) : Bool := match hgt i v o bs st 0 [] with | some (m, _) => m == 0 | none => false
def hgtL (i v o : Int) (bs : List TM) (st : List IN) : List Int := match hgt i v o bs st 0 [] with | some (_, out) => out | none => []
def blksB (bs : List TM) : Bool := bs.all fun t => blockB t.1 t.2.1 t.2.2
def rngC (i v o : Int) (bs : List TM) (st : List IN) : Bool := inR i 0 20 && (inR v 0 20 && (inR o 0 20 && (leN bs.length 2000 && leN st.length 2000)))
def codeB (i v o : Int) (bs : List TM) (st : List IN) : Bool := rngC i v o bs st && (blksB bs && hgtOk i v o bs st)
def tsOk (bs : List TM) : Bool := leN bs.length 9223372036854775807 && bs.all fun t => leN t.2.1.size 9223372036854775807

theorem tsOk_iff {bs : List TM} : tsOk bs = true ↔ bs.length ≤ 9223372036854775807 ∧ ∀ t ∈ bs, t.2.1.size ≤ 9223372036854775807 := by
  simp only [tsOk, Bool.and_eq_true, leN_iff, List.all_eq_true]

theorem rngC_iff {i v o : Int} {bs : List TM} {st : List IN} : rngC i v o bs st = true ↔ (0 ≤ i ∧ i ≤ 20) ∧ (0 ≤ v ∧ v ≤ 20) ∧ (0 ≤ o ∧ o ≤ 20) ∧ bs.length ≤ 2000 ∧ st.length ≤ 2000 := by
  simp only [rngC, Bool.and_eq_true, inR_iff, leN_iff]

theorem specHts (i v o : Int) (bs : List TM) (st : List IN) (hst : st.length ≤ 2000) (hbs : bs.length ≤ 2000) :
    spec_l17Heights_0 i v o bs st = hgtOk i v o bs st ∧ spec_l17Heights_1 i v o bs st = hgtL i v o bs st ∧ spec_l17Heights_2 i v o bs st = true := by
  obtain ⟨w1, w2⟩ := w_spec_l17Heights_l0 i v o bs st 0 [] (by omega) hst hbs ⟨⟨by omega, by omega⟩, rfl⟩
  have hw := walk_hgt (i := i) (v := v) (o := o) (bs := bs) (f := f_spec_l17Heights_l0 i v o bs) (e := 2) (fun b n acc hn => by
    have h := f_specH (i := i) (v := v) (o := o) (bs := bs) (b := b) (n := n) (acc := acc) hn
    have h : f_spec_l17Heights_l0 i v o bs b (n, acc) = _ := h
    rw [h]
    refine ⟨fun hc => ?_, fun hc => ?_⟩
    · simp only [Bool.and_eq_true] at hc
      simp [hc.1, hc.2.1, hc.2.2]
    · cases hq : fitI i v o bs b with
      | false => exact ⟨0, by omega, rfl⟩
      | true =>
        rw [hq, Bool.true_and] at hc
        exact ⟨1, by omega, by rw [hc]; rfl⟩) st 0 0 [] ⟨by omega, by omega⟩
  simp only [spec_l17Heights_0, spec_l17Heights_1, spec_l17Heights_2, spec_l17Heights_a0, spec_l17Heights_a1, spec_l17Heights_a2, spec_l17Heights_a3, w1, allT, cond_true]
  rw [w2]
  simp only [hgtOk, hgtL]
  cases hh : hgt i v o bs st 0 [] with
  | none =>
    have := hw.2 hh
    generalize walkL (f_spec_l17Heights_l0 i v o bs) 2 st 0 (0, []) = r at this ⊢
    obtain ⟨j, k, a⟩ := r
    have : j = 0 ∨ j = 1 := by simp only at this; omega
    rcases this with rfl | rfl <;> simp [Nat.beq]
  | some r =>
    obtain ⟨m, out⟩ := r
    have := (hw.1 m out hh).1
    rw [this]
    simp [Nat.beq, st_spec_l17Heights_l0]

def f_implH0 (i v o : Int) (bs : List TM) (b : IN) : Int × List Int → Nat ⊕ (Int × List Int)
  | (n, acc) => bif (bif ltI b.2 0 then true else leI (loop_example_g00916_impl_Code_many_0 i v o b.1 bs) b.2) then .inl 0 else
      bif ltI n (loop_example_g00916_impl_Code_effect_0 b.1 b.2 bs) then .inl 1 else
      bif ltI 40 (IntKind.i64.wrap (n + IntKind.i64.wrap (loop_example_g00916_impl_Code_effect_1 b.1 - loop_example_g00916_impl_Code_effect_0 b.1 b.2 bs))) then .inl 2 else
      .inr (IntKind.i64.wrap (n + IntKind.i64.wrap (loop_example_g00916_impl_Code_effect_1 b.1 - loop_example_g00916_impl_Code_effect_0 b.1 b.2 bs)), acc ++ [IntKind.i64.wrap (n + IntKind.i64.wrap (loop_example_g00916_impl_Code_effect_1 b.1 - loop_example_g00916_impl_Code_effect_0 b.1 b.2 bs))])

theorem f_implH {i v o : Int} {bs : List TM} {b : IN} {n : Int} {acc : List Int} (hr : (0 ≤ i ∧ i ≤ 20) ∧ (0 ≤ v ∧ v ≤ 20) ∧ 0 ≤ o ∧ o ≤ 20) (hl : bs.length ≤ 2000) (hn : 0 ≤ n ∧ n ≤ 40) :
    f_implH0 i v o bs b (n, acc) = bif !fitI i v o bs b then .inl 0 else bif !leI (tkI bs b) n then .inl 1 else bif !leI (n - tkI bs b + gvI b) 40 then .inl 2 else .inr (n - tkI bs b + gvI b, acc ++ [n - tkI bs b + gvI b]) := by
  have ht := tkI_in bs b
  have hg := gvI_in b
  have e1 : loop_example_g00916_impl_Code_effect_0 b.1 b.2 bs = tkI bs b := rfl
  have e2 : loop_example_g00916_impl_Code_effect_1 b.1 = gvI b := rfl
  have w1 : IntKind.i64.wrap (gvI b - tkI bs b) = gvI b - tkI bs b := wrap_i64 (by omega) (by omega)
  have w2 : IntKind.i64.wrap (n + (gvI b - tkI bs b)) = n - tkI bs b + gvI b := by rw [wrap_i64 (by omega) (by omega)]; omega
  simp only [f_implH0, many_fit hr.1 hr.2.1 hr.2.2 hl, e1, e2, w1, w2]
  have n1 : ltI n (tkI bs b) = !leI (tkI bs b) n := by
    by_cases h1 : n < tkI bs b
    · rw [ltI_t h1, leI_f (by omega)]; rfl
    · rw [ltI_f (by omega), leI_t (by omega)]; rfl
  have n2 : ltI 40 (n - tkI bs b + gvI b) = !leI (n - tkI bs b + gvI b) 40 := by
    by_cases h1 : 40 < n - tkI bs b + gvI b
    · rw [ltI_t h1, leI_f (by omega)]; rfl
    · rw [ltI_f (by omega), leI_t (by omega)]; rfl
  rw [n1, n2]

def f_loop_example_g00916_impl_Code_heights_l0 (y4 : Int) (y5 : Int) (y6 : Int) (y8 : List (Int × (ByteArray × Int))) (b : Int × Int) : (Int × List Int) → Nat ⊕ (Int × List Int)
  | (y2, y7) => (bif ((bif ltI (Prod.snd ((b))) (0 : Int) then true else leI (loop_example_g00916_impl_Code_many_0 y4 y5 y6 (Prod.fst ((b))) y8) (Prod.snd ((b))))) then (.inl 0) else (bif ((ltI y2 ((loop_example_g00916_impl_Code_effect_0 (Prod.fst ((b))) (Prod.snd ((b))) y8)))) then (.inl 1) else (bif ((ltI (40 : Int) ((IntKind.wrap IntKind.i64 (y2 + IntKind.wrap IntKind.i64 (loop_example_g00916_impl_Code_effect_1 (Prod.fst ((b))) - (loop_example_g00916_impl_Code_effect_0 (Prod.fst ((b))) (Prod.snd ((b))) y8))))))) then (.inl 2) else (.inr ((((IntKind.wrap IntKind.i64 (y2 + IntKind.wrap IntKind.i64 (loop_example_g00916_impl_Code_effect_1 (Prod.fst ((b))) - (loop_example_g00916_impl_Code_effect_0 (Prod.fst ((b))) (Prod.snd ((b))) y8)))))), ((y7 ++ [(IntKind.wrap IntKind.i64 (y2 + IntKind.wrap IntKind.i64 (loop_example_g00916_impl_Code_effect_1 (Prod.fst ((b))) - (loop_example_g00916_impl_Code_effect_0 (Prod.fst ((b))) (Prod.snd ((b))) y8))))])))))))

def st_loop_example_g00916_impl_Code_heights_l0 (y3 : List (Int × Int)) (y4 : Int) (y5 : Int) (y6 : Int) (y8 : List (Int × (ByteArray × Int))) (i : Nat) : (Int × List Int) → X_loop_example_g00916_impl_Code_heights_l0
  | (y2, y7) => ((i : Int), (↑(List.length y3) : Int), y2, y3, y4, y5, y6, y7, y8)

def pr_loop_example_g00916_impl_Code_heights_l0 : X_loop_example_g00916_impl_Code_heights_l0 → Int × List Int
  | (_, _, y2, _, _, _, _, y7, _) => (y2, y7)

theorem w_loop_example_g00916_impl_Code_heights_l0 (y3 : List (Int × Int)) (y4 : Int) (y5 : Int) (y6 : Int) (y8 : List (Int × (ByteArray × Int))) (y2 : Int) (y7 : List Int) (hn : y3.length ≤ 9223372036854775807) (hst : y3.length ≤ 2000) (hbs : y8.length ≤ 2000) (hr : (0 ≤ y4 ∧ y4 ≤ 20) ∧ (0 ≤ y5 ∧ y5 ≤ 20) ∧ 0 ≤ y6 ∧ y6 ≤ 20) (hin : (0 ≤ y2 ∧ y2 ≤ 40) ∧ y7.length = 0) :
    lp_loop_example_g00916_impl_Code_heights_l0.fin ((0 : Int), (↑(List.length y3) : Int), y2, y3, y4, y5, y6, y7, y8) = true ∧ lp_loop_example_g00916_impl_Code_heights_l0.res ((0 : Int), (↑(List.length y3) : Int), y2, y3, y4, y5, y6, y7, y8) = ((walkL (f_loop_example_g00916_impl_Code_heights_l0 y4 y5 y6 y8) 3 y3 0 (y2, y7)).1, (st_loop_example_g00916_impl_Code_heights_l0 y3 y4 y5 y6 y8) (walkL (f_loop_example_g00916_impl_Code_heights_l0 y4 y5 y6 y8) 3 y3 0 (y2, y7)).2.1 (walkL (f_loop_example_g00916_impl_Code_heights_l0 y4 y5 y6 y8) 3 y3 0 (y2, y7)).2.2) := by
  have key := lp_loop_example_g00916_impl_Code_heights_l0.along (st_loop_example_g00916_impl_Code_heights_l0 y3 y4 y5 y6 y8) pr_loop_example_g00916_impl_Code_heights_l0 (f_loop_example_g00916_impl_Code_heights_l0 y4 y5 y6 y8) 3 (fun i a => (0 ≤ a.1 ∧ a.1 ≤ 40) ∧ a.2.length = i) y3 (y2, y7) hin (by simp only [lp_loop_example_g00916_impl_Code_heights_l0, st_loop_example_g00916_impl_Code_heights_l0]; omega) (fun i b a hb hI => ?_) (fun a hI => ?_)
  · exact key
  · obtain ⟨y2, y7⟩ := a
    have hlt := (List.getElem?_eq_some_iff.1 hb).1
    have hget : ∀ d, Option.getD y3[i]? d = b := fun d => by rw [hb]; rfl
    have hw := wrap64 hlt hn
    have hdec : ltI (i : Int) (y3.length : Int) = true := ltI_t (by omega)
    have hnn : leI (0 : Int) (i : Int) = true := leI_t (by omega)
    have hltd : ltN i y3.length = true := ltN_t hlt
    refine ⟨?_, ?_, ?_, ?_⟩
    · have hg2 : loop_example_g00916_impl_Code_heights_l0_a0 (i : Int) y3 = b := by simp only [loop_example_g00916_impl_Code_heights_l0_a0, Int.toNat_natCast]; exact hget _
      have hl := hI.2
      have h6 : leN (y7.length + 1) 9223372036854775807 = true := leN_t (by simp only at hl; omega)
      have h7 : leN ((y7.length + 1) * 8) 140737488355328 = true := leN_t (by simp only at hl; omega)
      have h8 : fitI y4 y5 y6 y8 b = true → loop_example_g00916_impl_Code_effect_2 b.1 b.2 y8 = true := fit_nd hbs
      simp only [loop_example_g00916_impl_Code_heights_l0_0, loop_example_g00916_impl_Code_heights_l0_1, loop_example_g00916_impl_Code_heights_l0_2, loop_example_g00916_impl_Code_heights_l0_3, loop_example_g00916_impl_Code_heights_l0_4, loop_example_g00916_impl_Code_heights_l0_5, loop_example_g00916_impl_Code_heights_l0_8, loop_example_g00916_impl_Code_heights_l0_9, lt_loop_example_g00916_impl_Code_heights_l0, lp_loop_example_g00916_impl_Code_heights_l0, LT.nds, allT, st_loop_example_g00916_impl_Code_heights_l0, hdec, hnn, hltd, hg2, List.length_singleton, h6, h7, Int.toNat_natCast, many_fit hr.1 hr.2.1 hr.2.2 hbs, cond_true, cond_false]
      cases hf : fitI y4 y5 y6 y8 b with
      | false => rfl
      | true => simp [h8 hf]
    · simp [loop_example_g00916_impl_Code_heights_l0_a0, loop_example_g00916_impl_Code_heights_l0_a1, loop_example_g00916_impl_Code_heights_l0_a2, loop_example_g00916_impl_Code_heights_l0_0, loop_example_g00916_impl_Code_heights_l0_1, loop_example_g00916_impl_Code_heights_l0_2, loop_example_g00916_impl_Code_heights_l0_3, loop_example_g00916_impl_Code_heights_l0_4, loop_example_g00916_impl_Code_heights_l0_5, loop_example_g00916_impl_Code_heights_l0_6, loop_example_g00916_impl_Code_heights_l0_7, loop_example_g00916_impl_Code_heights_l0_8, loop_example_g00916_impl_Code_heights_l0_9, loop_example_g00916_impl_Code_heights_l0_10, loop_example_g00916_impl_Code_heights_l0_11, loop_example_g00916_impl_Code_heights_l0_12, lt_loop_example_g00916_impl_Code_heights_l0, lp_loop_example_g00916_impl_Code_heights_l0, LT.each, st_loop_example_g00916_impl_Code_heights_l0, pr_loop_example_g00916_impl_Code_heights_l0, hw]
    · have hg2 : loop_example_g00916_impl_Code_heights_l0_a0 (i : Int) y3 = b := by simp only [loop_example_g00916_impl_Code_heights_l0_a0, Int.toNat_natCast]; exact hget _
      simp only [loop_example_g00916_impl_Code_heights_l0_0, loop_example_g00916_impl_Code_heights_l0_4, loop_example_g00916_impl_Code_heights_l0_6, loop_example_g00916_impl_Code_heights_l0_7, loop_example_g00916_impl_Code_heights_l0_10, loop_example_g00916_impl_Code_heights_l0_11, loop_example_g00916_impl_Code_heights_l0_12, loop_example_g00916_impl_Code_heights_l0_a1, loop_example_g00916_impl_Code_heights_l0_a2, lt_loop_example_g00916_impl_Code_heights_l0, lp_loop_example_g00916_impl_Code_heights_l0, LT.fn, st_loop_example_g00916_impl_Code_heights_l0, pr_loop_example_g00916_impl_Code_heights_l0, f_loop_example_g00916_impl_Code_heights_l0, Int.toNat_natCast, hdec, hg2, cond_true]
    · have hk := hI.1
      simp only at hk
      have hs := f_implH (i := y4) (v := y5) (o := y6) (bs := y8) (b := b) (acc := y7) hr hbs hk
      intro a' hf
      have hf : f_implH0 y4 y5 y6 y8 b (y2, y7) = .inr a' := hf
      rw [hs] at hf
      have ht := tkI_in y8 b
      have hg := gvI_in b
      cases hq : fitI y4 y5 y6 y8 b with
      | false => rw [hq] at hf; cases hf
      | true =>
        cases hq2 : leI (tkI y8 b) y2 with
        | false => rw [hq, hq2] at hf; cases hf
        | true =>
          cases hq3 : leI (y2 - tkI y8 b + gvI b) 40 with
          | false => rw [hq, hq2, hq3] at hf; cases hf
          | true =>
            rw [hq, hq2, hq3] at hf; cases hf
            have hq2 := leI_iff.1 hq2
            have hq3 := leI_iff.1 hq3
            exact ⟨by simp only; omega, by have hl := hI.2; simp only at hl; simp [hl]⟩
  · obtain ⟨y2, y7⟩ := a
    simp [loop_example_g00916_impl_Code_heights_l0_a0, loop_example_g00916_impl_Code_heights_l0_a1, loop_example_g00916_impl_Code_heights_l0_a2, loop_example_g00916_impl_Code_heights_l0_0, loop_example_g00916_impl_Code_heights_l0_1, loop_example_g00916_impl_Code_heights_l0_2, loop_example_g00916_impl_Code_heights_l0_3, loop_example_g00916_impl_Code_heights_l0_4, loop_example_g00916_impl_Code_heights_l0_5, loop_example_g00916_impl_Code_heights_l0_6, loop_example_g00916_impl_Code_heights_l0_7, loop_example_g00916_impl_Code_heights_l0_8, loop_example_g00916_impl_Code_heights_l0_9, loop_example_g00916_impl_Code_heights_l0_10, loop_example_g00916_impl_Code_heights_l0_11, loop_example_g00916_impl_Code_heights_l0_12, lt_loop_example_g00916_impl_Code_heights_l0, lp_loop_example_g00916_impl_Code_heights_l0, LT.out, st_loop_example_g00916_impl_Code_heights_l0]

theorem implHts (i v o : Int) (bs : List TM) (st : List IN) (hr : (0 ≤ i ∧ i ≤ 20) ∧ (0 ≤ v ∧ v ≤ 20) ∧ 0 ≤ o ∧ o ≤ 20) (hst : st.length ≤ 2000) (hbs : bs.length ≤ 2000) :
    loop_example_g00916_impl_Code_heights_0 i v o bs st = hgtOk i v o bs st ∧ loop_example_g00916_impl_Code_heights_1 i v o bs st = hgtL i v o bs st ∧ loop_example_g00916_impl_Code_heights_2 i v o bs st = true := by
  obtain ⟨w1, w2⟩ := w_loop_example_g00916_impl_Code_heights_l0 st i v o bs 0 [] (by omega) hst hbs hr ⟨⟨by omega, by omega⟩, rfl⟩
  have hw := walk_hgt (i := i) (v := v) (o := o) (bs := bs) (f := f_loop_example_g00916_impl_Code_heights_l0 i v o bs) (e := 3) (fun b n acc hn => by
    have h := f_implH (i := i) (v := v) (o := o) (bs := bs) (b := b) (n := n) (acc := acc) hr hbs hn
    have h : f_loop_example_g00916_impl_Code_heights_l0 i v o bs b (n, acc) = _ := h
    rw [h]
    refine ⟨fun hc => ?_, fun hc => ?_⟩
    · simp only [Bool.and_eq_true] at hc
      simp [hc.1, hc.2.1, hc.2.2]
    · cases hq : fitI i v o bs b with
      | false => exact ⟨0, by omega, rfl⟩
      | true =>
        rw [hq, Bool.true_and] at hc
        cases hq2 : leI (tkI bs b) n with
        | false => exact ⟨1, by omega, rfl⟩
        | true => rw [hq2, Bool.true_and] at hc; exact ⟨2, by omega, by rw [hc]; rfl⟩) st 0 0 [] ⟨by omega, by omega⟩
  simp only [loop_example_g00916_impl_Code_heights_0, loop_example_g00916_impl_Code_heights_1, loop_example_g00916_impl_Code_heights_2, loop_example_g00916_impl_Code_heights_a0, loop_example_g00916_impl_Code_heights_a1, loop_example_g00916_impl_Code_heights_a2, loop_example_g00916_impl_Code_heights_a3, loop_example_g00916_impl_Code_heights_a4, w1, allT, cond_true]
  rw [w2]
  simp only [hgtOk, hgtL]
  cases hh : hgt i v o bs st 0 [] with
  | none =>
    have := hw.2 hh
    generalize walkL (f_loop_example_g00916_impl_Code_heights_l0 i v o bs) 3 st 0 (0, []) = r at this ⊢
    obtain ⟨j, k, a⟩ := r
    have : j = 0 ∨ j = 1 ∨ j = 2 := by simp only at this; omega
    rcases this with rfl | rfl | rfl <;> simp [Nat.beq]
  | some r =>
    obtain ⟨m, out⟩ := r
    have := (hw.1 m out hh).1
    rw [this]
    simp [Nat.beq, st_loop_example_g00916_impl_Code_heights_l0]

def f_spec_IsCode_l0  (b : Int × (ByteArray × Int)) : (Unit) → Nat ⊕ (Unit)
  | _ => (bif ((!blockB (Prod.fst ((b))) (Prod.fst (Prod.snd ((b)))) (Prod.snd (Prod.snd ((b)))))) then (.inl 0) else (.inr ()))

def st_spec_IsCode_l0 (y1 : Int) (y2 : Int) (y3 : Int) (y4 : List (Int × (ByteArray × Int))) (y5 : List (Int × Int)) (i : Nat) : (Unit) → X_spec_IsCode_l0
  | _ => ((i : Int), y1, y2, y3, y4, y5)

def pr_spec_IsCode_l0 : X_spec_IsCode_l0 → Unit
  | (_, _, _, _, _, _) => ()

theorem w_spec_IsCode_l0 (y1 : Int) (y2 : Int) (y3 : Int) (y4 : List (Int × (ByteArray × Int))) (y5 : List (Int × Int))  (hn : y4.length ≤ 9223372036854775807) (hA : ∀ t ∈ y4, t.2.1.size ≤ 9223372036854775807) :
    lp_spec_IsCode_l0.fin ((0 : Int), y1, y2, y3, y4, y5) = true ∧ lp_spec_IsCode_l0.res ((0 : Int), y1, y2, y3, y4, y5) = ((walkL (f_spec_IsCode_l0) 1 y4 0 ()).1, (st_spec_IsCode_l0 y1 y2 y3 y4 y5) (walkL (f_spec_IsCode_l0) 1 y4 0 ()).2.1 (walkL (f_spec_IsCode_l0) 1 y4 0 ()).2.2) := by
  have key := lp_spec_IsCode_l0.along (st_spec_IsCode_l0 y1 y2 y3 y4 y5) pr_spec_IsCode_l0 (f_spec_IsCode_l0) 1 (fun _ _ => True) y4 () (by trivial) (by simp only [lp_spec_IsCode_l0, st_spec_IsCode_l0]; omega) (fun i b a hb hI => ?_) (fun a hI => ?_)
  · exact key
  · obtain ⟨⟩ := a
    have hlt := (List.getElem?_eq_some_iff.1 hb).1
    have hget : ∀ d, Option.getD y4[i]? d = b := fun d => by rw [hb]; rfl
    have hw := wrap64 hlt hn
    have hdec : ltI (i : Int) (y4.length : Int) = true := ltI_t (by omega)
    have hnn : leI (0 : Int) (i : Int) = true := leI_t (by omega)
    have hltd : ltN i y4.length = true := ltN_t hlt
    refine ⟨?_, ?_, ?_, ?_⟩
    · have hg2 : spec_IsCode_l0_a0 (i : Int) y4 = b := by simp only [spec_IsCode_l0_a0, Int.toNat_natCast]; exact hget _
      have h6 : leN b.2.1.size 9223372036854775807 = true := leN_t (hA b (List.mem_of_getElem? hb))
      simp [spec_IsCode_l0_0, spec_IsCode_l0_1, spec_IsCode_l0_2, spec_IsCode_l0_3, spec_IsCode_l0_4, spec_IsCode_l0_5, lt_spec_IsCode_l0, lp_spec_IsCode_l0, LT.nds, allT, st_spec_IsCode_l0, hdec, hnn, hltd, hg2, h6]
    · simp [spec_IsCode_l0_a0, spec_IsCode_l0_0, spec_IsCode_l0_1, spec_IsCode_l0_2, spec_IsCode_l0_3, spec_IsCode_l0_4, spec_IsCode_l0_5, lt_spec_IsCode_l0, lp_spec_IsCode_l0, LT.each, st_spec_IsCode_l0, pr_spec_IsCode_l0, hw]
    · have hg2 : spec_IsCode_l0_a0 (i : Int) y4 = b := by simp only [spec_IsCode_l0_a0, Int.toNat_natCast]; exact hget _
      simp only [spec_IsCode_l0_0, spec_IsCode_l0_4, lt_spec_IsCode_l0, lp_spec_IsCode_l0, LT.fn, st_spec_IsCode_l0, pr_spec_IsCode_l0, f_spec_IsCode_l0, Int.toNat_natCast, hdec, hg2, cond_true]
    · exact fun _ _ => trivial
  · obtain ⟨⟩ := a
    simp [spec_IsCode_l0_a0, spec_IsCode_l0_0, spec_IsCode_l0_1, spec_IsCode_l0_2, spec_IsCode_l0_3, spec_IsCode_l0_4, spec_IsCode_l0_5, lt_spec_IsCode_l0, lp_spec_IsCode_l0, LT.out, st_spec_IsCode_l0]

def f_slices_IndexFunc_impl_Term_q4001_l0  (b : Int × (ByteArray × Int)) : (Unit) → Nat ⊕ (Unit)
  | _ => (bif ((impl_IsCode_1_q4002_0 (Prod.fst ((b))) (Prod.fst (Prod.snd ((b)))) (Prod.snd (Prod.snd ((b)))))) then (.inl 0) else (.inr ()))

def st_slices_IndexFunc_impl_Term_q4001_l0 (y2 : List (Int × (ByteArray × Int))) (i : Nat) : (Unit) → X_slices_IndexFunc_impl_Term_q4001_l0
  | _ => ((i : Int), (↑(List.length y2) : Int), y2)

def pr_slices_IndexFunc_impl_Term_q4001_l0 : X_slices_IndexFunc_impl_Term_q4001_l0 → Unit
  | (_, _, _) => ()

theorem w_slices_IndexFunc_impl_Term_q4001_l0 (y2 : List (Int × (ByteArray × Int)))  (hn : y2.length ≤ 9223372036854775807)  :
    lp_slices_IndexFunc_impl_Term_q4001_l0.fin ((0 : Int), (↑(List.length y2) : Int), y2) = true ∧ lp_slices_IndexFunc_impl_Term_q4001_l0.res ((0 : Int), (↑(List.length y2) : Int), y2) = ((walkL (f_slices_IndexFunc_impl_Term_q4001_l0) 1 y2 0 ()).1, (st_slices_IndexFunc_impl_Term_q4001_l0 y2) (walkL (f_slices_IndexFunc_impl_Term_q4001_l0) 1 y2 0 ()).2.1 (walkL (f_slices_IndexFunc_impl_Term_q4001_l0) 1 y2 0 ()).2.2) := by
  have key := lp_slices_IndexFunc_impl_Term_q4001_l0.along (st_slices_IndexFunc_impl_Term_q4001_l0 y2) pr_slices_IndexFunc_impl_Term_q4001_l0 (f_slices_IndexFunc_impl_Term_q4001_l0) 1 (fun _ _ => True) y2 () (by trivial) (by simp only [lp_slices_IndexFunc_impl_Term_q4001_l0, st_slices_IndexFunc_impl_Term_q4001_l0]; omega) (fun i b a hb hI => ?_) (fun a hI => ?_)
  · exact key
  · obtain ⟨⟩ := a
    have hlt := (List.getElem?_eq_some_iff.1 hb).1
    have hget : ∀ d, Option.getD y2[i]? d = b := fun d => by rw [hb]; rfl
    have hw := wrap64 hlt hn
    have hdec : ltI (i : Int) (y2.length : Int) = true := ltI_t (by omega)
    have hnn : leI (0 : Int) (i : Int) = true := leI_t (by omega)
    have hltd : ltN i y2.length = true := ltN_t hlt
    refine ⟨?_, ?_, ?_, ?_⟩
    · simp [slices_IndexFunc_impl_Term_q4001_l0_a0, slices_IndexFunc_impl_Term_q4001_l0_0, slices_IndexFunc_impl_Term_q4001_l0_1, slices_IndexFunc_impl_Term_q4001_l0_2, slices_IndexFunc_impl_Term_q4001_l0_3, slices_IndexFunc_impl_Term_q4001_l0_4, slices_IndexFunc_impl_Term_q4001_l0_5, lt_slices_IndexFunc_impl_Term_q4001_l0, lp_slices_IndexFunc_impl_Term_q4001_l0, LT.nds, allT, st_slices_IndexFunc_impl_Term_q4001_l0, hdec, hnn, hltd, hget]
    · simp [slices_IndexFunc_impl_Term_q4001_l0_a0, slices_IndexFunc_impl_Term_q4001_l0_0, slices_IndexFunc_impl_Term_q4001_l0_1, slices_IndexFunc_impl_Term_q4001_l0_2, slices_IndexFunc_impl_Term_q4001_l0_3, slices_IndexFunc_impl_Term_q4001_l0_4, slices_IndexFunc_impl_Term_q4001_l0_5, lt_slices_IndexFunc_impl_Term_q4001_l0, lp_slices_IndexFunc_impl_Term_q4001_l0, LT.each, st_slices_IndexFunc_impl_Term_q4001_l0, pr_slices_IndexFunc_impl_Term_q4001_l0, hw]
    · simp only [slices_IndexFunc_impl_Term_q4001_l0_a0, slices_IndexFunc_impl_Term_q4001_l0_0, slices_IndexFunc_impl_Term_q4001_l0_1, slices_IndexFunc_impl_Term_q4001_l0_2, slices_IndexFunc_impl_Term_q4001_l0_3, slices_IndexFunc_impl_Term_q4001_l0_4, slices_IndexFunc_impl_Term_q4001_l0_5, lt_slices_IndexFunc_impl_Term_q4001_l0, lp_slices_IndexFunc_impl_Term_q4001_l0, LT.fn, st_slices_IndexFunc_impl_Term_q4001_l0, pr_slices_IndexFunc_impl_Term_q4001_l0, f_slices_IndexFunc_impl_Term_q4001_l0, Int.toNat_natCast, hdec, hnn, hltd, hget, cond_true, Bool.cond_self]
    · exact fun _ _ => trivial
  · obtain ⟨⟩ := a
    simp [slices_IndexFunc_impl_Term_q4001_l0_a0, slices_IndexFunc_impl_Term_q4001_l0_0, slices_IndexFunc_impl_Term_q4001_l0_1, slices_IndexFunc_impl_Term_q4001_l0_2, slices_IndexFunc_impl_Term_q4001_l0_3, slices_IndexFunc_impl_Term_q4001_l0_4, slices_IndexFunc_impl_Term_q4001_l0_5, lt_slices_IndexFunc_impl_Term_q4001_l0, lp_slices_IndexFunc_impl_Term_q4001_l0, LT.out, st_slices_IndexFunc_impl_Term_q4001_l0]

theorem blks_any (bs : List TM) : (bs.any fun t => !blockB t.1 t.2.1 t.2.2) = !blksB bs := by simp [blksB, List.all_eq_not_any_not]

theorem rng_spec (i v o : Int) (bs : List TM) (st : List IN) : spec_IsCode_a0 i v o bs st = !rngC i v o bs st := by
  have e1 : ∀ x : Int, spec_l01In_0 x 0 20 = inR x 0 20 := fun x => by simp only [spec_l01In_0, inR_eq]
  have e2 : ∀ n : Nat, ltI 2000 (n : Int) = !leN n 2000 := fun n => by
    by_cases h : n ≤ 2000
    · rw [leN_t h, ltI_f (by omega)]; rfl
    · rw [leN_f (by omega), ltI_t (by omega)]; rfl
  simp only [spec_IsCode_a0, rngC, e1, e2]
  cases inR i 0 20 <;> cases inR v 0 20 <;> cases inR o 0 20 <;> cases leN bs.length 2000 <;> cases leN st.length 2000 <;> rfl

theorem specCodeB (i v o : Int) (bs : List TM) (st : List IN) (h : tsOk bs = true) : spec_IsCode_0 i v o bs st = codeB i v o bs st ∧ spec_IsCode_1 i v o bs st = true := by
  obtain ⟨hn, hA⟩ := tsOk_iff.1 h
  simp only [spec_IsCode_0, spec_IsCode_1, rng_spec, codeB]
  cases hr : rngC i v o bs st with
  | false => simp [allT]
  | true =>
    obtain ⟨h1, h2, h3, h4, h5⟩ := rngC_iff.1 hr
    obtain ⟨q1, q2, q3⟩ := specHts i v o bs st h5 h4
    obtain ⟨w1, w2⟩ := w_spec_IsCode_l0 i v o bs st hn hA
    rw [walk_stop (P := fun t => !blockB t.1 t.2.1 t.2.2) (j := 0) (fun t => rfl), blks_any] at w2
    simp only [spec_IsCode_a1, spec_IsCode_a2, w1, w2, q1, q3, allT]
    cases blksB bs <;> simp [Nat.beq]

theorem implCodeB (i v o : Int) (bs : List TM) (st : List IN) : impl_IsCode_0 i v o bs st = codeB i v o bs st ∧ impl_IsCode_1 i v o bs st = true := by
  have e0 : impl_IsCode_a0 i v o bs st = spec_IsCode_a0 i v o bs st := by simp only [impl_IsCode_a0, spec_IsCode_a0, impl_within_0, spec_l01In_0]
  simp only [impl_IsCode_0, impl_IsCode_1, e0, rng_spec, codeB]
  cases hr : rngC i v o bs st with
  | false => simp [allT]
  | true =>
    obtain ⟨h1, h2, h3, h4, h5⟩ := rngC_iff.1 hr
    obtain ⟨q1, q2, q3⟩ := implHts i v o bs st ⟨h1, h2, h3⟩ h5 h4
    obtain ⟨w1, w2⟩ := w_slices_IndexFunc_impl_Term_q4001_l0 bs (by omega)
    rw [walk_stop (P := fun t => !blockB t.1 t.2.1 t.2.2) (j := 0) (fun t => rfl), blks_any] at w2
    simp only [slices_ContainsFunc_impl_Term_q4000_0, slices_ContainsFunc_impl_Term_q4000_1, slices_IndexFunc_impl_Term_q4001_0, slices_IndexFunc_impl_Term_q4001_1, slices_IndexFunc_impl_Term_q4001_a0, w1, w2, q1, q3, allT]
    cases blksB bs with
    | true => simp [Nat.beq, show leI 0 (-1) = false from rfl]
    | false => simp [Nat.beq, st_slices_IndexFunc_impl_Term_q4001_l0]; intro h; omega

def N_spec_IsCode : List SV → List Entry → Option Out
  | [.one ⟨true, [.val (.int .i64 x0), .val (.int .i64 x1), .val (.int .i64 x2), .ref 0, .ref 1]⟩], [.row false 31 (.pair (.int .i64) (.pair (.str) (.int .i64))) x3, .row false 144 (.pair (.int .i64) (.int .i64)) x4] => some ⟨(.one ⟨false, [(.val (.bool (codeB x0 x1 x2 x3 x4)))]⟩), [(.row false 31 (CTy.pair (CTy.int IntKind.i64) (CTy.pair CTy.str (CTy.int IntKind.i64))) x3), (.row false 144 (CTy.pair (CTy.int IntKind.i64) (CTy.int IntKind.i64)) x4)], [], [tsOk x3]⟩
  | _, _ => none

def n_spec_IsCode : PF Tryd.prog := PF.alt p_spec_IsCode N_spec_IsCode (by
  intro args es o h hnd; unfold N_spec_IsCode at h; split at h
  · rename_i x0 x1 x2 x3 x4
    cases h
    have hnd := nd_fst hnd
    have hh := specCodeB x0 x1 x2 x3 x4 hnd
    obtain ⟨e0, en⟩ := hh
    exact altok rfl (nd_one en) (by simp only [e0] <;> rfl) rfl rfl
  · cases h)

def N_impl_IsCode : List SV → List Entry → Option Out
  | [.one ⟨true, [.val (.int .i64 x0), .val (.int .i64 x1), .val (.int .i64 x2), .ref 0, .ref 1]⟩], [.row false 31 (.pair (.int .i64) (.pair (.str) (.int .i64))) x3, .row false 144 (.pair (.int .i64) (.int .i64)) x4] => some ⟨(.one ⟨false, [(.val (.bool (codeB x0 x1 x2 x3 x4)))]⟩), [(.row false 31 (CTy.pair (CTy.int IntKind.i64) (CTy.pair CTy.str (CTy.int IntKind.i64))) x3), (.row false 144 (CTy.pair (CTy.int IntKind.i64) (CTy.int IntKind.i64)) x4)], [], []⟩
  | _, _ => none

def n_impl_IsCode : PF Tryd.prog := PF.alt p_impl_IsCode N_impl_IsCode (by
  intro args es o h hnd; unfold N_impl_IsCode at h; split at h
  · rename_i x0 x1 x2 x3 x4
    cases h
    have hh := implCodeB x0 x1 x2 x3 x4
    obtain ⟨e0, en⟩ := hh
    exact altok rfl (nd_one en) (by simp only [e0] <;> rfl) rfl rfl
  · cases h)

end Go.SX
