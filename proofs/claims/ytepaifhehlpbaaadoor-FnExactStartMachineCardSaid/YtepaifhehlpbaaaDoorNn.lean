/- Codes and memories, in plain words. -/
import Derived.Test.YtepaifhehlpbaaaDoorNm
namespace Go.SX
open Go.Proofs
set_option maxRecDepth 100000

abbrev IN := Int × Int
abbrev BS3 := Int × Int × Int

/-- What an instruction takes, gives, whether it fits. -/
def tkI (bs : List TM) (x : IN) : Int := spec_l17Takes_0 x.1 x.2 bs
def gvI (x : IN) : Int := spec_l17Takes_1 x.1
def fitI (i v o : Int) (bs : List TM) (x : IN) : Bool := spec_l17Fits_0 i v o x.1 x.2 bs

theorem takes_in (k : Int) : 0 ≤ spec_l13Takes_0 k ∧ spec_l13Takes_0 k ≤ 2 := by
  unfold spec_l13Takes_0
  generalize (bif k == 1 then k == 1 else bif k == 2 then k == 2 else k == 3) = b1
  generalize (bif k == 4 then k == 4 else bif k == 7 then k == 7 else bif k == 8 then k == 8 else k == 9) = b2
  cases b1 <;> cases b2 <;> decide

theorem tkI_in (bs : List TM) (x : IN) : 0 ≤ tkI bs x ∧ tkI bs x ≤ 2 := by
  have h := takes_in (Prod.fst (Option.getD bs[Int.toNat x.2]? ((0 : Int), ByteArray.empty, (0 : Int))))
  unfold tkI spec_l17Takes_0
  generalize spec_l17Takes_a0 x.1 = b1
  generalize spec_l17Takes_a1 x.1 = b2
  generalize spec_l17Takes_a2 x.1 = b3
  generalize (x.1 == 4) = b4
  generalize (x.1 == 7) = b5
  cases b1 <;> cases b4 <;> cases b2 <;> cases b5 <;> cases b3 <;> simp only [cond_true, cond_false] <;> first | exact h | decide

theorem gvI_in (x : IN) : 0 ≤ gvI x ∧ gvI x ≤ 1 := by
  unfold gvI spec_l17Takes_1
  generalize spec_l17Takes_a0 x.1 = b1
  generalize spec_l17Takes_a1 x.1 = b2
  generalize spec_l17Takes_a2 x.1 = b3
  generalize (x.1 == 4) = b4
  generalize (x.1 == 7) = b5
  cases b1 <;> cases b4 <;> cases b2 <;> cases b5 <;> cases b3 <;> decide

theorem fit_nd {i v o : Int} {bs : List TM} {x : IN} (hl : bs.length ≤ 2000) (h : fitI i v o bs x = true) : spec_l17Takes_2 x.1 x.2 bs = true := by
  by_cases h7 : x.1 = 7
  · simp [fitI, spec_l17Fits_0, h7, spec_l01In_0, Bool.cond_eq_ite] at h
    have hw : IntKind.i64.wrap ((bs.length : Int) - 1) = bs.length - 1 := wrap_i64 (by omega) (by omega)
    rw [hw] at h
    have h1 : leI 0 x.2 = true := leI_t (by omega)
    have h2 : ltI x.2 (bs.length : Int) = true := ltI_t (by omega)
    have h3 : ltN x.2.toNat bs.length = true := ltN_t (by omega)
    simp [spec_l17Takes_2, allT, h1, h2, h3]
  · simp [spec_l17Takes_2, allT, h7]

theorem many_fit {i v o : Int} {bs : List TM} {x : IN} (hi : 0 ≤ i ∧ i ≤ 20) (hv : 0 ≤ v ∧ v ≤ 20) (ho : 0 ≤ o ∧ o ≤ 20) (hl : bs.length ≤ 2000) :
    (bif ltI x.2 0 then true else leI (loop_example_g00916_impl_Code_many_0 i v o x.1 bs) x.2) = !fitI i v o bs x := by
  have w1 : IntKind.i64.wrap (i - 1) = i - 1 := wrap_i64 (by omega) (by omega)
  have w2 : IntKind.i64.wrap (v - 1) = v - 1 := wrap_i64 (by omega) (by omega)
  have w3 : IntKind.i64.wrap (o - 1) = o - 1 := wrap_i64 (by omega) (by omega)
  have w4 : IntKind.i64.wrap ((bs.length : Int) - 1) = bs.length - 1 := wrap_i64 (by omega) (by omega)
  have key : ∀ m : Int, (bif ltI x.2 0 then true else leI m x.2) = !(bif leI 0 x.2 then leI x.2 (m - 1) else false) := fun m => by
    by_cases h0 : x.2 < 0
    · have a1 : ltI x.2 0 = true := ltI_t h0
      have a2 : leI 0 x.2 = false := leI_f (by omega)
      simp [a1, a2]
    · have a1 : ltI x.2 0 = false := ltI_f (by omega)
      have a2 : leI 0 x.2 = true := leI_t (by omega)
      simp only [a1, a2, cond_false, cond_true]
      by_cases hm : m ≤ x.2
      · rw [leI_t hm, leI_f (by omega)]; rfl
      · rw [leI_f (by omega), leI_t (by omega)]; rfl
  rw [key]
  simp only [fitI, spec_l17Fits_0, loop_example_g00916_impl_Code_many_0, impl_length_impl_Term_0, spec_l01In_0, w1, w2, w3, w4]
  generalize (bif x.1 == 2 then x.1 == 2 else x.1 == 10) = b2
  generalize (bif x.1 == 3 then x.1 == 3 else bif x.1 == 8 then x.1 == 8 else x.1 == 11) = b3
  generalize (bif x.1 == 4 then x.1 == 4 else bif x.1 == 5 then x.1 == 5 else x.1 == 6) = b4
  generalize (x.1 == 1) = b1
  generalize (x.1 == 7) = b5
  generalize (x.1 == 9) = b6
  have e0 : (bif leI 0 x.2 then leI x.2 (1 - 1) else false) = (x.2 == 0) := by
    by_cases h : x.2 = 0
    · rw [h]; rfl
    · have : (x.2 == 0) = false := by simpa using h
      rw [this]
      by_cases h0 : 0 ≤ x.2
      · rw [leI_t h0, leI_f (by omega)]; rfl
      · rw [leI_f (by omega)]; rfl
  have e1 : (bif leI 0 x.2 then leI x.2 (0 - 1) else false) = false := by
    by_cases h0 : 0 ≤ x.2
    · rw [leI_t h0, leI_f (by omega)]; rfl
    · rw [leI_f (by omega)]; rfl
  cases b1 <;> cases b2 <;> cases b3 <;> cases b4 <;> cases b5 <;> cases b6 <;> simp only [cond_true, cond_false, e0, e1] <;> rfl

/-- The heights behind instructions. -/
def hgt (i v o : Int) (bs : List TM) : List IN → Int → List Int → Option (Int × List Int)
  | [], n, acc => some (n, acc)
  | x :: r, n, acc => bif fitI i v o bs x && (leI (tkI bs x) n && leI (n - tkI bs x + gvI x) 40) then hgt i v o bs r (n - tkI bs x + gvI x) (acc ++ [n - tkI bs x + gvI x]) else none

/-- A step of the heights, as the reference does it. -/
def f_specH0 (i v o : Int) (bs : List TM) (b : IN) : Int × List Int → Nat ⊕ (Int × List Int)
  | (n, acc) => bif !spec_l17Fits_0 i v o b.1 b.2 bs then .inl 0 else
      bif (bif ltI n (spec_l17Takes_0 b.1 b.2 bs) then true else ltI 40 (IntKind.i64.wrap (IntKind.i64.wrap (n - spec_l17Takes_0 b.1 b.2 bs) + spec_l17Takes_1 b.1))) then .inl 1 else
      .inr (IntKind.i64.wrap (IntKind.i64.wrap (n - spec_l17Takes_0 b.1 b.2 bs) + spec_l17Takes_1 b.1), acc ++ [IntKind.i64.wrap (IntKind.i64.wrap (n - spec_l17Takes_0 b.1 b.2 bs) + spec_l17Takes_1 b.1)])

theorem f_specH {i v o : Int} {bs : List TM} {b : IN} {n : Int} {acc : List Int} (hn : 0 ≤ n ∧ n ≤ 40) :
    f_specH0 i v o bs b (n, acc) = bif !fitI i v o bs b then .inl 0 else bif !(leI (tkI bs b) n && leI (n - tkI bs b + gvI b) 40) then .inl 1 else .inr (n - tkI bs b + gvI b, acc ++ [n - tkI bs b + gvI b]) := by
  have ht := tkI_in bs b
  have hg := gvI_in b
  have e1 : spec_l17Takes_0 b.1 b.2 bs = tkI bs b := rfl
  have e2 : spec_l17Takes_1 b.1 = gvI b := rfl
  have e3 : spec_l17Fits_0 i v o b.1 b.2 bs = fitI i v o bs b := rfl
  have w1 : IntKind.i64.wrap (n - tkI bs b) = n - tkI bs b := wrap_i64 (by omega) (by omega)
  have w2 : IntKind.i64.wrap (n - tkI bs b + gvI b) = n - tkI bs b + gvI b := wrap_i64 (by omega) (by omega)
  simp only [f_specH0, e1, e2, e3, w1, w2]
  cases fitI i v o bs b with
  | false => rfl
  | true =>
    have e4 : (bif ltI n (tkI bs b) then true else ltI 40 (n - tkI bs b + gvI b)) = !(leI (tkI bs b) n && leI (n - tkI bs b + gvI b) 40) := by
      by_cases h1 : n < tkI bs b
      · rw [ltI_t h1, leI_f (by omega)]; rfl
      · rw [ltI_f (by omega), leI_t (by omega)]
        by_cases h2 : 40 < n - tkI bs b + gvI b
        · rw [ltI_t h2, leI_f (by omega)]; rfl
        · rw [ltI_f (by omega), leI_t (by omega)]; rfl
    rw [e4]

/-- The heights by a walk. -/
theorem walk_hgt {i v o : Int} {bs : List TM} {f : IN → Int × List Int → Nat ⊕ (Int × List Int)} {e : Nat}
    (hf : ∀ b n acc, 0 ≤ n ∧ n ≤ 40 → ((fitI i v o bs b && (leI (tkI bs b) n && leI (n - tkI bs b + gvI b) 40)) = true → f b (n, acc) = .inr (n - tkI bs b + gvI b, acc ++ [n - tkI bs b + gvI b])) ∧
      ((fitI i v o bs b && (leI (tkI bs b) n && leI (n - tkI bs b + gvI b) 40)) = false → ∃ j, j < e ∧ f b (n, acc) = .inl j)) :
    ∀ (r : List IN) (k : Nat) (n : Int) (acc : List Int), 0 ≤ n ∧ n ≤ 40 →
      (∀ m out, hgt i v o bs r n acc = some (m, out) → walkL f e r k (n, acc) = (e, k + r.length, (m, out)) ∧ 0 ≤ m ∧ m ≤ 40) ∧ (hgt i v o bs r n acc = none → (walkL f e r k (n, acc)).1 < e)
  | [], k, n, acc, hn => ⟨fun m out h => by simp only [hgt, Option.some.injEq, Prod.mk.injEq] at h; obtain ⟨rfl, rfl⟩ := h; exact ⟨rfl, hn⟩, fun h => by simp [hgt] at h⟩
  | b :: r, k, n, acc, hn => by
    have ht := tkI_in bs b
    have hg := gvI_in b
    cases hc : (fitI i v o bs b && (leI (tkI bs b) n && leI (n - tkI bs b + gvI b) 40)) with
    | true =>
      have h1 := (hf b n acc hn).1 hc
      have hb : 0 ≤ n - tkI bs b + gvI b ∧ n - tkI bs b + gvI b ≤ 40 := by simp only [Bool.and_eq_true, leI_iff] at hc; omega
      obtain ⟨g1, g2⟩ := walk_hgt hf r (k + 1) _ (acc ++ [n - tkI bs b + gvI b]) hb
      simp only [hgt, hc, cond_true, walkL, h1]
      refine ⟨fun m out h => ?_, g2⟩
      obtain ⟨q1, q2⟩ := g1 m out h
      refine ⟨?_, q2⟩
      rw [q1]; simp; omega
    | false =>
      obtain ⟨j, hj, h1⟩ := (hf b n acc hn).2 hc
      simp only [hgt, hc, cond_false, walkL, h1]
      exact ⟨fun m out h => (by cases h), fun _ => hj⟩

def f_spec_l17Heights_l0 (y2 : Int) (y3 : Int) (y4 : Int) (y6 : List (Int × (ByteArray × Int))) (b : Int × Int) : (Int × List Int) → Nat ⊕ (Int × List Int)
  | (y1, y5) => (bif ((!spec_l17Fits_0 y2 y3 y4 (Prod.fst ((b))) (Prod.snd ((b))) y6)) then (.inl 0) else (bif ((bif ltI y1 ((spec_l17Takes_0 (Prod.fst ((b))) (Prod.snd ((b))) y6)) then true else ltI (40 : Int) ((IntKind.wrap IntKind.i64 (IntKind.wrap IntKind.i64 (y1 - (spec_l17Takes_0 (Prod.fst ((b))) (Prod.snd ((b))) y6)) + spec_l17Takes_1 (Prod.fst ((b)))))))) then (.inl 1) else (.inr ((((IntKind.wrap IntKind.i64 (IntKind.wrap IntKind.i64 (y1 - (spec_l17Takes_0 (Prod.fst ((b))) (Prod.snd ((b))) y6)) + spec_l17Takes_1 (Prod.fst ((b))))))), ((y5 ++ [(IntKind.wrap IntKind.i64 (IntKind.wrap IntKind.i64 (y1 - (spec_l17Takes_0 (Prod.fst ((b))) (Prod.snd ((b))) y6)) + spec_l17Takes_1 (Prod.fst ((b)))))]))))))

def st_spec_l17Heights_l0 (y2 : Int) (y3 : Int) (y4 : Int) (y6 : List (Int × (ByteArray × Int))) (y7 : List (Int × Int)) (i : Nat) : (Int × List Int) → X_spec_l17Heights_l0
  | (y1, y5) => ((i : Int), y1, y2, y3, y4, y5, y6, y7)

def pr_spec_l17Heights_l0 : X_spec_l17Heights_l0 → Int × List Int
  | (_, y1, _, _, _, y5, _, _) => (y1, y5)

theorem w_spec_l17Heights_l0 (y2 : Int) (y3 : Int) (y4 : Int) (y6 : List (Int × (ByteArray × Int))) (y7 : List (Int × Int)) (y1 : Int) (y5 : List Int) (hn : y7.length ≤ 9223372036854775807) (hst : y7.length ≤ 2000) (hbs : y6.length ≤ 2000) (hin : (0 ≤ y1 ∧ y1 ≤ 40) ∧ y5.length = 0) :
    lp_spec_l17Heights_l0.fin ((0 : Int), y1, y2, y3, y4, y5, y6, y7) = true ∧ lp_spec_l17Heights_l0.res ((0 : Int), y1, y2, y3, y4, y5, y6, y7) = ((walkL (f_spec_l17Heights_l0 y2 y3 y4 y6) 2 y7 0 (y1, y5)).1, (st_spec_l17Heights_l0 y2 y3 y4 y6 y7) (walkL (f_spec_l17Heights_l0 y2 y3 y4 y6) 2 y7 0 (y1, y5)).2.1 (walkL (f_spec_l17Heights_l0 y2 y3 y4 y6) 2 y7 0 (y1, y5)).2.2) := by
  have key := lp_spec_l17Heights_l0.along (st_spec_l17Heights_l0 y2 y3 y4 y6 y7) pr_spec_l17Heights_l0 (f_spec_l17Heights_l0 y2 y3 y4 y6) 2 (fun i a => (0 ≤ a.1 ∧ a.1 ≤ 40) ∧ a.2.length = i) y7 (y1, y5) hin (by simp only [lp_spec_l17Heights_l0, st_spec_l17Heights_l0]; omega) (fun i b a hb hI => ?_) (fun a hI => ?_)
  · exact key
  · obtain ⟨y1, y5⟩ := a
    have hlt := (List.getElem?_eq_some_iff.1 hb).1
    have hget : ∀ d, Option.getD y7[i]? d = b := fun d => by rw [hb]; rfl
    have hw := wrap64 hlt hn
    have hdec : ltI (i : Int) (y7.length : Int) = true := ltI_t (by omega)
    have hnn : leI (0 : Int) (i : Int) = true := leI_t (by omega)
    have hltd : ltN i y7.length = true := ltN_t hlt
    refine ⟨?_, ?_, ?_, ?_⟩
    · have hg2 : spec_l17Heights_l0_a0 (i : Int) y7 = b := by simp only [spec_l17Heights_l0_a0, Int.toNat_natCast]; exact hget _
      have hl := hI.2
      have h6 : leN (y5.length + 1) 9223372036854775807 = true := leN_t (by simp only at hl; omega)
      have h7 : leN ((y5.length + 1) * 8) 140737488355328 = true := leN_t (by simp only at hl; omega)
      have h8 : fitI y2 y3 y4 y6 b = true → spec_l17Takes_2 b.1 b.2 y6 = true := fit_nd hbs
      simp only [spec_l17Heights_l0_0, spec_l17Heights_l0_1, spec_l17Heights_l0_2, spec_l17Heights_l0_3, spec_l17Heights_l0_4, spec_l17Heights_l0_6, spec_l17Heights_l0_7, lt_spec_l17Heights_l0, lp_spec_l17Heights_l0, LT.nds, allT, st_spec_l17Heights_l0, hdec, hnn, hltd, hg2, List.length_singleton, h6, h7, Int.toNat_natCast, cond_true, cond_false]
      change (bif !fitI y2 y3 y4 y6 b then _ else _) = true
      cases hf : fitI y2 y3 y4 y6 b with
      | false => rfl
      | true => simp [h8 hf]
    · simp [spec_l17Heights_l0_a0, spec_l17Heights_l0_a1, spec_l17Heights_l0_a2, spec_l17Heights_l0_0, spec_l17Heights_l0_1, spec_l17Heights_l0_2, spec_l17Heights_l0_3, spec_l17Heights_l0_4, spec_l17Heights_l0_5, spec_l17Heights_l0_6, spec_l17Heights_l0_7, spec_l17Heights_l0_8, spec_l17Heights_l0_9, spec_l17Heights_l0_10, lt_spec_l17Heights_l0, lp_spec_l17Heights_l0, LT.each, st_spec_l17Heights_l0, pr_spec_l17Heights_l0, hw]
    · have hg2 : spec_l17Heights_l0_a0 (i : Int) y7 = b := by simp only [spec_l17Heights_l0_a0, Int.toNat_natCast]; exact hget _
      simp only [spec_l17Heights_l0_0, spec_l17Heights_l0_3, spec_l17Heights_l0_5, spec_l17Heights_l0_8, spec_l17Heights_l0_9, spec_l17Heights_l0_10, spec_l17Heights_l0_a1, spec_l17Heights_l0_a2, lt_spec_l17Heights_l0, lp_spec_l17Heights_l0, LT.fn, st_spec_l17Heights_l0, pr_spec_l17Heights_l0, f_spec_l17Heights_l0, Int.toNat_natCast, hdec, hg2, cond_true]
    · have hk := hI.1
      simp only at hk
      have hs := f_specH (i := y2) (v := y3) (o := y4) (bs := y6) (b := b) (acc := y5) hk
      intro a' hf
      have hf : f_specH0 y2 y3 y4 y6 b (y1, y5) = .inr a' := hf
      rw [hs] at hf
      have ht := tkI_in y6 b
      have hg := gvI_in b
      cases hq : fitI y2 y3 y4 y6 b with
      | false => rw [hq] at hf; cases hf
      | true =>
        cases hq2 : (leI (tkI y6 b) y1 && leI (y1 - tkI y6 b + gvI b) 40) with
        | false => rw [hq, hq2] at hf; cases hf
        | true =>
          rw [hq, hq2] at hf; cases hf
          simp only [Bool.and_eq_true, leI_iff] at hq2
          exact ⟨by simp only; omega, by have hl := hI.2; simp only at hl; simp [hl]⟩
  · obtain ⟨y1, y5⟩ := a
    simp [spec_l17Heights_l0_a0, spec_l17Heights_l0_a1, spec_l17Heights_l0_a2, spec_l17Heights_l0_0, spec_l17Heights_l0_1, spec_l17Heights_l0_2, spec_l17Heights_l0_3, spec_l17Heights_l0_4, spec_l17Heights_l0_5, spec_l17Heights_l0_6, spec_l17Heights_l0_7, spec_l17Heights_l0_8, spec_l17Heights_l0_9, spec_l17Heights_l0_10, lt_spec_l17Heights_l0, lp_spec_l17Heights_l0, LT.out, st_spec_l17Heights_l0]

end Go.SX
