/- What functions of the program come to, and what that says in plain words: part 2. -/
import Derived.Test.YtbajbgcdcaknpaaMa
import Derived.Test.YtbajbgcdcaknpaaTXh
import Derived.Test.YtbajbgcdcaknpaaProg
set_option linter.unusedSimpArgs false
set_option linter.unusedVariables false
namespace Go.SX
open Go.Proofs
set_option maxRecDepth 100000

def k1l (x0 : Int) (x1 : Int) (x2 : Int) : Bool :=
  bif
    !kg2 (kes x0 x1 x2) (keh x0 x1 x2) (kha x0 x1 x2) (kcx x0 x1 x2) (kcn x0 x1 x2)
        (kei x0 x1 x2) (k1x x0 x1 x2) (k45 x0 x1 x2) (k3g x0 x1 x2) (k5q x0 x1 x2)
        (k6o x0 x1 x2) (k81 x0 x1 x2) (kbg x0 x1 x2) (ken x0 x1 x2) (kbh x0 x1 x2)
        (kel x0 x1 x2) (keq x0 x1 x2) (khc x0 x1 x2) then
  true
  else kh7 x0 x1 x2 != khd x0 x1 x2

def k8j (x0 : Int) (x1 : Int) (x2 : Int) : List (Int × Int × Int) :=
  k8w (1 : Int) (k1x x0 x1 x2) (k45 x0 x1 x2)

def k8b (x0 : Int) (x1 : Int) (x2 : Int) : List (List Int) :=
  k8x (1 : Int) (k1x x0 x1 x2) (k45 x0 x1 x2) (k3g x0 x1 x2)

def k8f (x0 : Int) (x1 : Int) (x2 : Int) : List (Int × Int × Int) :=
  k8u (1 : Int) (k1x x0 x1 x2) (k45 x0 x1 x2) (k3g x0 x1 x2) (k5q x0 x1 x2)

def k80 (x0 : Int) (x1 : Int) (x2 : Int) : List (Int × Int) :=
  k8v (1 : Int) (k1x x0 x1 x2) (k45 x0 x1 x2) (k3g x0 x1 x2) (k5q x0 x1 x2)
  (k6o x0 x1 x2)

def k7x (x0 : Int) (x1 : Int) (x2 : Int) : List (Int × Int) :=
  k8y (1 : Int) (k1x x0 x1 x2) (k45 x0 x1 x2) (k3g x0 x1 x2) (k5q x0 x1 x2)
  (k6o x0 x1 x2) (k81 x0 x1 x2)

def k27 (x0 : Int) (x1 : Int) (x2 : Int) : Int :=
  kbz (1 : Int) (k6q (1 : Int) (k1x x0 x1 x2)) (k8j x0 x1 x2) (k8b x0 x1 x2)
  (k8f x0 x1 x2) (k80 x0 x1 x2) (k7x x0 x1 x2)

def k36 (x0 : Int) (x1 : Int) (x2 : Int) : Bool :=
  k27 x0 x1 x2 !=
  (1 : Int) +
    (↑(rideT (k1x x0 x1 x2) (k45 x0 x1 x2) (k3g x0 x1 x2) (k5q x0 x1 x2) (k6o x0 x1 x2)
          (k81 x0 x1 x2)) :
      Int)

def k8q (x0 : Int) (x1 : Int) (x2 : Int) : Bool :=
  kg0 (kes x0 x1 x2) (keh x0 x1 x2) (kcx x0 x1 x2) (kcn x0 x1 x2) (k1x x0 x1 x2)
  (k45 x0 x1 x2) (k3g x0 x1 x2) (k5q x0 x1 x2) (k6o x0 x1 x2) (k81 x0 x1 x2)
  (kbg x0 x1 x2) (ken x0 x1 x2) (kbh x0 x1 x2) (kel x0 x1 x2) (keq x0 x1 x2)

def k85 (x0 : Int) (x1 : Int) (x2 : Int) : Bool :=
  k1l x0 x1 x2 ||
  rideN (9223372036854775807 : Nat) (k6q (1 : Int) (k1x x0 x1 x2)) (k8j x0 x1 x2)
    (k8b x0 x1 x2) (k8f x0 x1 x2) (k80 x0 x1 x2) (k7x x0 x1 x2)

def kbn (x0 : Int) (x1 : Int) (x2 : Int) : Bool :=
  bif k1l x0 x1 x2 then false
  else
  bif ltI (k27 x0 x1 x2) (0 : Int) then false
  else
    bif k36 x0 x1 x2 then false
    else
      bif k1l x0 x1 x2 then false
      else bif ltI (k27 x0 x1 x2) (0 : Int) then false else bif k36 x0 x1 x2 then false else true

def kbl (x0 : Int) (x1 : Int) (x2 : Int) : Bool :=
  allT
  [kc0 x0 x1 x2, kax x0 x1 x2, k8q x0 x1 x2,
    k1l x0 x1 x2 ||
      mkOk (1 : Int)
          (rideT (k1x x0 x1 x2) (k45 x0 x1 x2) (k3g x0 x1 x2) (k5q x0 x1 x2) (k6o x0 x1 x2)
            (k81 x0 x1 x2)) &&
        rideN (9223372036854775807 : Nat) (k1x x0 x1 x2) (k45 x0 x1 x2) (k3g x0 x1 x2) (k5q x0 x1 x2)
          (k6o x0 x1 x2) (k81 x0 x1 x2),
    k85 x0 x1 x2,
    k1l x0 x1 x2 ||
      (ltI (k27 x0 x1 x2) (0 : Int) || (k36 x0 x1 x2 || kax x0 x1 x2)),
    k1l x0 x1 x2 ||
      (ltI (k27 x0 x1 x2) (0 : Int) || (k36 x0 x1 x2 || k8q x0 x1 x2)),
    k1l x0 x1 x2 ||
      (ltI (k27 x0 x1 x2) (0 : Int) || (k36 x0 x1 x2 || k85 x0 x1 x2))]

def kec : List SV → List Entry → Option Out
  | [.one ⟨false, [.val (.int .i64 x0)]⟩, .one ⟨false, [.val (.int .i64 x1)]⟩, .one ⟨false, [.val (.int .i64 x2)]⟩], [] => some ⟨(.one ⟨false, [(.val (.bool (kbn x0 x1 x2)))]⟩), [], [], [(kbl x0 x1 x2)]⟩
  | _, _ => none

def kja : PF Try.prog := PF.ofG Try.prog [PF.trees Try.prog, kmu, kmw, kid, PF.lend kid, PF.fz kid, kg3, PF.lend kg3, PF.fz kg3, kg9, PF.lend kg9, PF.fz kg9] [] hmix 3 Try.f3 Try.func3 (fun c _ => LOk.nil c) kec (by
  intro vs es r h; unfold kec at h; split at h
  · cases h; kernel_rfl
  · cases h)

end Go.SX

namespace Go.SX
open Go.Proofs
set_option maxRecDepth 100000

theorem rows12 {c : Int} (h : 1 ≤ c ∧ c ≤ 12) : c = 1 ∨ c = 2 ∨ c = 3 ∨ c = 4 ∨ c = 5 ∨ c = 6 ∨ c = 7 ∨ c = 8 ∨ c = 9 ∨ c = 10 ∨ c = 11 ∨ c = 12 := by omega

theorem knx (n : Nat) : 20 ≤ big n := le_big (by omega)

/-- slices.Repeat at one number. -/
theorem rep_ok (c v : Int) (h : 1 ≤ c ∧ c ≤ 12) : k6 c [v] = List.replicate c.toNat v ∧ k9 c [v] = true := by
  have key : ∀ (m : Nat) (x : kg) (z : Nat × kg), runL km.lt m x = some z → m ≤ 20 → km.fin x = true ∧ km.res x = z :=
    fun m x z hr hm => km.run hr (Nat.le_trans hm (knx _))
  rcases rows12 h with rfl | rfl | rfl | rfl | rfl | rfl | rfl | rfl | rfl | rfl | rfl | rfl
  · obtain ⟨w1, w2⟩ := key 8 (1, [v]) (0, (1, [v])) (by kernel_rfl) (by decide)
    have e : ka 1 [v] = (1, [v]) := by kernel_rfl
    exact ⟨by simp only [k6, e, w2]; kernel_rfl, by simp only [k9, e, w1]; kernel_rfl⟩
  · obtain ⟨w1, w2⟩ := key 8 (1, [v, 0]) (0, (2, [v, v])) (by kernel_rfl) (by decide)
    have e : ka 2 [v] = (1, [v, 0]) := by kernel_rfl
    exact ⟨by simp only [k6, e, w2]; kernel_rfl, by simp only [k9, e, w1]; kernel_rfl⟩
  · obtain ⟨w1, w2⟩ := key 8 (1, [v, 0, 0]) (0, (3, [v, v, v])) (by kernel_rfl) (by decide)
    have e : ka 3 [v] = (1, [v, 0, 0]) := by kernel_rfl
    exact ⟨by simp only [k6, e, w2]; kernel_rfl, by simp only [k9, e, w1]; kernel_rfl⟩
  · obtain ⟨w1, w2⟩ := key 8 (1, [v, 0, 0, 0]) (0, (4, [v, v, v, v])) (by kernel_rfl) (by decide)
    have e : ka 4 [v] = (1, [v, 0, 0, 0]) := by kernel_rfl
    exact ⟨by simp only [k6, e, w2]; kernel_rfl, by simp only [k9, e, w1]; kernel_rfl⟩
  · obtain ⟨w1, w2⟩ := key 8 (1, [v, 0, 0, 0, 0]) (0, (5, [v, v, v, v, v])) (by kernel_rfl) (by decide)
    have e : ka 5 [v] = (1, [v, 0, 0, 0, 0]) := by kernel_rfl
    exact ⟨by simp only [k6, e, w2]; kernel_rfl, by simp only [k9, e, w1]; kernel_rfl⟩
  · obtain ⟨w1, w2⟩ := key 8 (1, [v, 0, 0, 0, 0, 0]) (0, (6, [v, v, v, v, v, v])) (by kernel_rfl) (by decide)
    have e : ka 6 [v] = (1, [v, 0, 0, 0, 0, 0]) := by kernel_rfl
    exact ⟨by simp only [k6, e, w2]; kernel_rfl, by simp only [k9, e, w1]; kernel_rfl⟩
  · obtain ⟨w1, w2⟩ := key 8 (1, [v, 0, 0, 0, 0, 0, 0]) (0, (7, [v, v, v, v, v, v, v])) (by kernel_rfl) (by decide)
    have e : ka 7 [v] = (1, [v, 0, 0, 0, 0, 0, 0]) := by kernel_rfl
    exact ⟨by simp only [k6, e, w2]; kernel_rfl, by simp only [k9, e, w1]; kernel_rfl⟩
  · obtain ⟨w1, w2⟩ := key 8 (1, [v, 0, 0, 0, 0, 0, 0, 0]) (0, (8, [v, v, v, v, v, v, v, v])) (by kernel_rfl) (by decide)
    have e : ka 8 [v] = (1, [v, 0, 0, 0, 0, 0, 0, 0]) := by kernel_rfl
    exact ⟨by simp only [k6, e, w2]; kernel_rfl, by simp only [k9, e, w1]; kernel_rfl⟩
  · obtain ⟨w1, w2⟩ := key 8 (1, [v, 0, 0, 0, 0, 0, 0, 0, 0]) (0, (9, [v, v, v, v, v, v, v, v, v])) (by kernel_rfl) (by decide)
    have e : ka 9 [v] = (1, [v, 0, 0, 0, 0, 0, 0, 0, 0]) := by kernel_rfl
    exact ⟨by simp only [k6, e, w2]; kernel_rfl, by simp only [k9, e, w1]; kernel_rfl⟩
  · obtain ⟨w1, w2⟩ := key 8 (1, [v, 0, 0, 0, 0, 0, 0, 0, 0, 0]) (0, (10, [v, v, v, v, v, v, v, v, v, v])) (by kernel_rfl) (by decide)
    have e : ka 10 [v] = (1, [v, 0, 0, 0, 0, 0, 0, 0, 0, 0]) := by kernel_rfl
    exact ⟨by simp only [k6, e, w2]; kernel_rfl, by simp only [k9, e, w1]; kernel_rfl⟩
  · obtain ⟨w1, w2⟩ := key 8 (1, [v, 0, 0, 0, 0, 0, 0, 0, 0, 0, 0]) (0, (11, [v, v, v, v, v, v, v, v, v, v, v])) (by kernel_rfl) (by decide)
    have e : ka 11 [v] = (1, [v, 0, 0, 0, 0, 0, 0, 0, 0, 0, 0]) := by kernel_rfl
    exact ⟨by simp only [k6, e, w2]; kernel_rfl, by simp only [k9, e, w1]; kernel_rfl⟩
  · obtain ⟨w1, w2⟩ := key 8 (1, [v, 0, 0, 0, 0, 0, 0, 0, 0, 0, 0, 0]) (0, (12, [v, v, v, v, v, v, v, v, v, v, v, v])) (by kernel_rfl) (by decide)
    have e : ka 12 [v] = (1, [v, 0, 0, 0, 0, 0, 0, 0, 0, 0, 0, 0]) := by kernel_rfl
    exact ⟨by simp only [k6, e, w2]; kernel_rfl, by simp only [k9, e, w1]; kernel_rfl⟩

theorem knw (c v : Int) (h : 1 ≤ c ∧ c ≤ 12) : k7s c v = List.replicate c.toNat v ∧ kcs c v = true := by
  have key : ∀ (m : Nat) (x : k3c) (z : Nat × k3c), runL k2o.lt m x = some z → m ≤ 20 → k2o.fin x = true ∧ k2o.res x = z :=
    fun m x z hr hm => k2o.run hr (Nat.le_trans hm (knx _))
  have hk : ∀ z, runL k2o.lt 14 (c, v, []) = some z → z.2.2.2 = List.replicate c.toNat v → k7s c v = List.replicate c.toNat v ∧ kcs c v = true := by
    intro z hz hq
    obtain ⟨w1, w2⟩ := key 14 (c, v, []) z hz (by decide)
    exact ⟨by simp only [k7s, kdv, w2]; exact hq, by simp only [kcs, kdv, w1]; rfl⟩
  rcases rows12 h with rfl | rfl | rfl | rfl | rfl | rfl | rfl | rfl | rfl | rfl | rfl | rfl
  · exact hk (0, (0, v, [v])) (by kernel_rfl) (by kernel_rfl)
  · exact hk (0, (0, v, [v, v])) (by kernel_rfl) (by kernel_rfl)
  · exact hk (0, (0, v, [v, v, v])) (by kernel_rfl) (by kernel_rfl)
  · exact hk (0, (0, v, [v, v, v, v])) (by kernel_rfl) (by kernel_rfl)
  · exact hk (0, (0, v, [v, v, v, v, v])) (by kernel_rfl) (by kernel_rfl)
  · exact hk (0, (0, v, [v, v, v, v, v, v])) (by kernel_rfl) (by kernel_rfl)
  · exact hk (0, (0, v, [v, v, v, v, v, v, v])) (by kernel_rfl) (by kernel_rfl)
  · exact hk (0, (0, v, [v, v, v, v, v, v, v, v])) (by kernel_rfl) (by kernel_rfl)
  · exact hk (0, (0, v, [v, v, v, v, v, v, v, v, v])) (by kernel_rfl) (by kernel_rfl)
  · exact hk (0, (0, v, [v, v, v, v, v, v, v, v, v, v])) (by kernel_rfl) (by kernel_rfl)
  · exact hk (0, (0, v, [v, v, v, v, v, v, v, v, v, v, v])) (by kernel_rfl) (by kernel_rfl)
  · exact hk (0, (0, v, [v, v, v, v, v, v, v, v, v, v, v, v])) (by kernel_rfl) (by kernel_rfl)

end Go.SX

namespace Go.SX
open Go.Proofs
set_option maxRecDepth 100000

theorem ko2 (b : Nat) (h : b < 4) : IntKind.i64.wrap ((2 : Int) * ifLt (b : Int) 1 (b : Int) 1) = bif (b : Int) == 0 then 0 else 2 := by
  have : b = 0 ∨ b = 1 ∨ b = 2 ∨ b = 3 := by omega
  rcases this with rfl | rfl | rfl | rfl <;> rfl

def k6d (y2 : Int) (y3 : Int) (b : Nat) : (List Int × List (List Int)) → Nat ⊕ (List Int × List (List Int))
  | (y4, y5) => (.inr (((y4 ++ ([IntKind.wrap IntKind.i64 (IntKind.wrap IntKind.i64 ((3 : Int) * IntKind.wrap IntKind.i64 (IntKind.wrap IntKind.i64 (y2 - (1 : Int)) - (↑b : Int))) + (1 : Int))]))), ((y5 ++ [k7s y3 ((IntKind.wrap IntKind.i64 ((2 : Int) * ifLt (↑b : Int) (1 : Int) (↑b : Int) (1 : Int))))]))))

def k3h (y1 : Int) (y2 : Int) (y3 : Int) (i : Nat) : (List Int × List (List Int)) → k39
  | (y4, y5) => ((i : Int), y1, y2, y3, y4, y5)

def kdd : k39 → List Int × List (List Int)
  | (_, _, _, _, y4, y5) => (y4, y5)

theorem km3 (y1 : Int) (y2 : Int) (y3 : Int) (y4 : List Int) (y5 : List (List Int)) (hn : y1 ≤ 9223372036854775807) (h4 : y1 ≤ 4) (hr : 1 ≤ y3 ∧ y3 ≤ 12) (hp : y4.length = 0) (hq : y5.length = 0) :
    k1c.fin ((0 : Int), y1, y2, y3, y4, y5) = true ∧ k1c.res ((0 : Int), y1, y2, y3, y4, y5) = ((walkL (k6d y2 y3) 0 (List.range y1.toNat) 0 (y4, y5)).1, (k3h y1 y2 y3) (walkL (k6d y2 y3) 0 (List.range y1.toNat) 0 (y4, y5)).2.1 (walkL (k6d y2 y3) 0 (List.range y1.toNat) 0 (y4, y5)).2.2) := by
  have key := k1c.along (k3h y1 y2 y3) kdd (k6d y2 y3) 0 (fun i a => a.1.length = i ∧ a.2.length = i) (List.range y1.toNat) (y4, y5) ⟨hp, hq⟩ (by simp only [k1c, k3h, List.length_range]; omega) (fun i b a hb hI => ?_) (fun a hI => ?_)
  · exact key
  · obtain ⟨y4, y5⟩ := a
    obtain ⟨rfl, hlt⟩ := range_get hb
    have hw : IntKind.i64.wrap ((b : Int) + 1) = ((b + 1 : Nat) : Int) := by rw [wrap_i64 (by omega) (by omega)]; omega
    have hdec : ltI (b : Int) y1 = true := ltI_t (by omega)
    have hnn : leI (0 : Int) (b : Int) = true := leI_t (by omega)
    refine ⟨?_, ?_, ?_, ?_⟩
    · obtain ⟨g1, g2⟩ := hI
      simp only at g1 g2
      have l1 : leN (y4.length + 1) 9223372036854775807 = true := leN_t (by omega)
      have l2 : leN ((y4.length + 1) * 8) 140737488355328 = true := leN_t (by omega)
      have l3 : leN (y5.length + 1) 9223372036854775807 = true := leN_t (by omega)
      have l4 : leN ((y5.length + 1) * 24) 140737488355328 = true := leN_t (by omega)
      have l5 := (knw y3 (k4i (b : Int)) hr).2
      simp only [ka4, kak, kaq, kau, kaa, kad, k5d, k9q, k1c, LT.nds, allT, k3h, hdec, List.length_singleton, l1, l2, l3, l4, l5, cond_true]
    · simp [k5d, k4i, ka4, kak, kaq, kau, kaa, kad, kc4, kc8, kc1, k9q, k1c, LT.each, k3h, kdd, hw]
    · simp only [k5d, k4i, ka4, kak, kaq, kau, kaa, kad, kc4, kc8, kc1, k9q, k1c, LT.fn, k3h, kdd, k6d, Int.toNat_natCast, hdec, hnn, cond_true, Bool.cond_self]
    · intro a' hf
      simp only [k6d, Sum.inr.injEq] at hf
      subst hf
      obtain ⟨g1, g2⟩ := hI
      simp only at g1 g2
      exact ⟨by simp [g1], by simp [g2]⟩
  · obtain ⟨y4, y5⟩ := a
    simp only [k5d, k4i, ka4, kak, kaq, kau, kaa, kad, kc4, kc8, kc1, k9q, k1c, LT.out, k3h, List.length_range, ltI_toNat, ltI_down, cond_false]

def k6c (y2 : Int) (y3 : Int) (b : Nat) : (List Int × List (List Int)) → Nat ⊕ (List Int × List (List Int))
  | (y7, y9) => (.inr (((y7 ++ ([IntKind.wrap IntKind.i64 (IntKind.wrap IntKind.i64 ((3 : Int) * IntKind.wrap IntKind.i64 (IntKind.wrap IntKind.i64 (y2 - (1 : Int)) - (↑b : Int))) + (1 : Int))]))), ((y9 ++ [k6 y3 (([bif (↑b : Int) == (0 : Int) then (0 : Int) else (2 : Int)]))]))))

def k3f (y1 : Int) (y2 : Int) (y3 : Int) (y4 : Int) (y5 : Int) (y6 : Int) (y8 : List (Int × (Int × Int))) (y10 : List (Int × (Int × Int))) (y11 : List (Int × Int)) (y12 : List (Int × Int)) (i : Nat) : (List Int × List (List Int)) → k3b
  | (y7, y9) => ((i : Int), y1, y2, y3, y4, y5, y6, y7, y8, y9, y10, y11, y12)

def kdf : k3b → List Int × List (List Int)
  | (_, _, _, _, _, _, _, y7, _, y9, _, _, _) => (y7, y9)

theorem klx (y1 : Int) (y2 : Int) (y3 : Int) (y4 : Int) (y5 : Int) (y6 : Int) (y8 : List (Int × (Int × Int))) (y10 : List (Int × (Int × Int))) (y11 : List (Int × Int)) (y12 : List (Int × Int)) (y7 : List Int) (y9 : List (List Int)) (hn : y1 ≤ 9223372036854775807) (h4 : y1 ≤ 4) (hr : 1 ≤ y3 ∧ y3 ≤ 12) (hp : y7.length = 0) (hq : y9.length = 0) :
    k1d.fin ((0 : Int), y1, y2, y3, y4, y5, y6, y7, y8, y9, y10, y11, y12) = true ∧ k1d.res ((0 : Int), y1, y2, y3, y4, y5, y6, y7, y8, y9, y10, y11, y12) = ((walkL (k6c y2 y3) 0 (List.range y1.toNat) 0 (y7, y9)).1, (k3f y1 y2 y3 y4 y5 y6 y8 y10 y11 y12) (walkL (k6c y2 y3) 0 (List.range y1.toNat) 0 (y7, y9)).2.1 (walkL (k6c y2 y3) 0 (List.range y1.toNat) 0 (y7, y9)).2.2) := by
  have key := k1d.along (k3f y1 y2 y3 y4 y5 y6 y8 y10 y11 y12) kdf (k6c y2 y3) 0 (fun i a => a.1.length = i ∧ a.2.length = i) (List.range y1.toNat) (y7, y9) ⟨hp, hq⟩ (by simp only [k1d, k3f, List.length_range]; omega) (fun i b a hb hI => ?_) (fun a hI => ?_)
  · exact key
  · obtain ⟨y7, y9⟩ := a
    obtain ⟨rfl, hlt⟩ := range_get hb
    have hw : IntKind.i64.wrap ((b : Int) + 1) = ((b + 1 : Nat) : Int) := by rw [wrap_i64 (by omega) (by omega)]; omega
    have hdec : ltI (b : Int) y1 = true := ltI_t (by omega)
    have hnn : leI (0 : Int) (b : Int) = true := leI_t (by omega)
    refine ⟨?_, ?_, ?_, ?_⟩
    · obtain ⟨g1, g2⟩ := hI
      simp only at g1 g2
      have l1 : leN (y7.length + 1) 9223372036854775807 = true := leN_t (by omega)
      have l2 : leN ((y7.length + 1) * 8) 140737488355328 = true := leN_t (by omega)
      have l3 : leN (y9.length + 1) 9223372036854775807 = true := leN_t (by omega)
      have l4 : leN ((y9.length + 1) * 24) 140737488355328 = true := leN_t (by omega)
      have l5 := (rep_ok y3 (bif (b : Int) == 0 then 0 else (2 : Int)) hr).2
      simp only [kal, kar, ka6, kae, ka9, kav, k5h, k4c, k9o, k1d, LT.nds, allT, k3f, hdec, List.length_singleton, l1, l2, l3, l4, l5, cond_true]
    · simp [k5h, k4c, kal, kar, ka6, kae, ka9, kav, kc2, kca, kc3, k9o, k1d, LT.each, k3f, kdf, hw]
    · simp only [k5h, k4c, kal, kar, ka6, kae, ka9, kav, kc2, kca, kc3, k9o, k1d, LT.fn, k3f, kdf, k6c, Int.toNat_natCast, hdec, hnn, cond_true, Bool.cond_self]
    · intro a' hf
      simp only [k6c, Sum.inr.injEq] at hf
      subst hf
      obtain ⟨g1, g2⟩ := hI
      simp only at g1 g2
      exact ⟨by simp [g1], by simp [g2]⟩
  · obtain ⟨y7, y9⟩ := a
    simp only [k5h, k4c, kal, kar, ka6, kae, ka9, kav, kc2, kca, kc3, k9o, k1d, LT.out, k3f, List.length_range, ltI_toNat, ltI_down, cond_false]

theorem klj {A B : Type} {f g : B → A → Nat ⊕ A} {e : Nat} : ∀ {l : List B} {i : Nat} {a : A}, (∀ b ∈ l, ∀ a, f b a = g b a) → walkL f e l i a = walkL g e l i a
  | [], _, _, _ => rfl
  | b :: r, i, a, h => by
    simp only [walkL, h b (by simp) a]
    cases g b a with
    | inl j => rfl
    | inr a' => exact klj fun x hx => h x (by simp [hx])

theorem kn0 {A B : Type} {f : B → A → Nat ⊕ A} {g : A → B → A} {e : Nat} (hf : ∀ b a, f b a = .inr (g a b)) : ∀ (l : List B) (i : Nat) (a : A), walkL f e l i a = (e, i + l.length, l.foldl g a)
  | [], i, a => rfl
  | b :: r, i, a => by
    simp only [walkL, hf, List.foldl_cons]
    rw [kn0 hf r]
    simp [Nat.add_assoc, Nat.add_comm 1]

/-- The places and restraints of a new ride. -/
def nrS (n r : Int) (a : List Int × List (List Int)) (b : Nat) : List Int × List (List Int) :=
  (a.1 ++ [IntKind.wrap IntKind.i64 (IntKind.wrap IntKind.i64 ((3 : Int) * IntKind.wrap IntKind.i64 (IntKind.wrap IntKind.i64 (n - (1 : Int)) - (b : Int))) + (1 : Int))], a.2 ++ [List.replicate r.toNat (bif (b : Int) == 0 then 0 else 2)])
def nrF (n t r : Int) : List Int × List (List Int) := (List.range t.toNat).foldl (nrS n r) ([], [])

theorem nr_len (n r : Int) : ∀ (l : List Nat) (a : List Int × List (List Int)) (m : Nat), (∀ x ∈ a.2, x.length ≤ m) → r.toNat ≤ m → (l.foldl (nrS n r) a).1.length = a.1.length + l.length ∧ (l.foldl (nrS n r) a).2.length = a.2.length + l.length ∧ ∀ x ∈ (l.foldl (nrS n r) a).2, x.length ≤ m
  | [], a, m, h, _ => ⟨rfl, rfl, h⟩
  | b :: l, a, m, h, hr => by
    obtain ⟨h1, h2, h3⟩ := nr_len n r l (nrS n r a b) m (fun x hx => by
      simp only [nrS, List.mem_append, List.mem_singleton] at hx
      rcases hx with hx | rfl
      · exact h x hx
      · rw [List.length_replicate]; exact hr) hr
    refine ⟨?_, ?_, h3⟩
    · rw [List.foldl_cons, h1]; simp [nrS]; omega
    · rw [List.foldl_cons, h2]; simp [nrS]; omega

theorem kn4 (x0 x1 x2 : Int) : k5s x0 x1 x2 = k3d x0 x1 x2 := rfl

theorem knr (x0 x1 x2 : Int) : ∃ (T : Bool) (P : List Int) (R : List (List Int)), k3d x0 x1 x2 = T ∧ (T = true → P = [] ∧ R = []) ∧ P.length ≤ 4 ∧ R.length ≤ 4 ∧ (∀ x ∈ R, x.length ≤ 12) ∧
    kbg x0 x1 x2 = P ∧ kbh x0 x1 x2 = R ∧ k1x x0 x1 x2 = P ∧ k3g x0 x1 x2 = R ∧ kc0 x0 x1 x2 = true ∧ kax x0 x1 x2 = true := by
  cases hT : k3d x0 x1 x2 with
  | true =>
    refine ⟨true, [], [], rfl, fun _ => ⟨rfl, rfl⟩, by simp, by simp, fun x hx => (List.not_mem_nil hx).elim, ?_, ?_, ?_, ?_, ?_, ?_⟩ <;>
      simp only [kbg, kbh, k1x, k3g, kc0, kax, kn4, hT, cond_true, allT, Bool.true_or]
  | false =>
    have hb : (1 ≤ x1 ∧ x1 ≤ 4) ∧ 1 ≤ x2 ∧ x2 ≤ 12 := by
      have h := hT
      have hm : ifLt (k8z x0) 4 (k8z x0) 4 ≤ 4 := by
        rw [ifLt_eq]; cases h : ltI (k8z x0) 4 <;> simp; have := ltI_iff.1 h; omega
      simp only [k3d, kfa, inR_eq] at h
      cases h1 : inR x1 1 (ifLt (k8z x0) 4 (k8z x0) 4) with
      | false => rw [h1] at h; simp at h
      | true =>
        cases h2 : inR x2 1 12 with
        | false => rw [h2] at h; simp at h
        | true =>
          have := knv.1 h1
          have := knv.1 h2
          omega
    obtain ⟨⟨b1, b2⟩, b3⟩ := hb
    obtain ⟨w1, w2⟩ := km3 x1 x0 x2 [] [] (by omega) b2 b3 rfl rfl
    obtain ⟨v1, v2⟩ := klx x1 x0 x2 x0 0 0 [] [] [] [] [] [] (by omega) b2 b3 rfl rfl
    have hm : ∀ b ∈ List.range x1.toNat, b < 4 := fun b hb => by rw [List.mem_range] at hb; omega
    rw [klj (g := fun b a => .inr (nrS x0 x2 a b)) (fun b hb a => by simp only [k6d, nrS, (knw x2 _ b3).1, ko2 b (hm b hb)]), kn0 (g := nrS x0 x2) (fun b a => rfl)] at w2
    rw [klj (g := fun b a => .inr (nrS x0 x2 a b)) (fun b hb a => by simp only [k6c, nrS, (rep_ok x2 _ b3).1]), kn0 (g := nrS x0 x2) (fun b a => rfl)] at v2
    obtain ⟨l1, l2, l3⟩ := nr_len x0 x2 (List.range x1.toNat) ([], []) 12 (fun x hx => (List.not_mem_nil hx).elim) (by omega)
    rw [List.length_range] at l1 l2
    refine ⟨false, (nrF x0 x1 x2).1, (nrF x0 x1 x2).2, rfl, (fun h => by cases h), (by have : (nrF x0 x1 x2).1.length = 0 + x1.toNat := l1; omega), (by have : (nrF x0 x1 x2).2.length = 0 + x1.toNat := l2; omega), l3, ?_, ?_, ?_, ?_, ?_, ?_⟩
    · simp only [kbg, hT, kdx, kby, w2, k3h, cond_false]; rfl
    · simp only [kbh, hT, kdx, kby, w2, k3h, cond_false]; rfl
    · simp only [k1x, kn4, hT, kdu, kbw, v2, k3f, cond_false]; rfl
    · simp only [k3g, kn4, hT, kdu, kbw, v2, k3f, cond_false]; rfl
    · simp only [kc0, kby, hT, w1, allT]; rfl
    · simp only [kax, kbw, kn4, hT, v1, allT]; rfl

end Go.SX

namespace Go.SX
open Go.Proofs
set_option maxRecDepth 100000

theorem knc (n mode day : Int) (ps : List Int) (fs : List (Int × Int × Int)) (rs : List (List Int)) (lf : List (Int × Int × Int)) (pl ls : List (Int × Int)) (h : rideN 9223372036854775807 ps fs rs lf pl ls = true) :
    kg2 n mode day n mode day ps fs rs lf pl ls ps fs rs lf pl ls = true ∧ kg0 n mode n mode ps fs rs lf pl ls ps fs rs lf pl = true := by
  simp only [rideN, Bool.and_eq_true] at h
  obtain ⟨h1, h2, h3, h4, h5, h6⟩ := h
  have e1 : eqT n n ps ps = true := by simp [eqT, eqL]
  have e2 : eqFls fs fs = true := by simp [eqFls]
  have e3 : eqSS rs rs = true := by simp [eqSS]
  have e4 : eqFls lf lf = true := by simp [eqFls]
  have e5 : eqPr pl pl = true := by simp [eqPr]
  have e6 : eqPr ls ls = true := by simp [eqPr]
  simp [kg2, kg0, allT, e1, e2, e3, e4, e5, e6, h1, h2, h3, h4, h5, h6]

theorem knf (x0 x1 x2 : Int) : kbn x0 x1 x2 = true ∧ kbl x0 x1 x2 = true := by
  obtain ⟨T, P, R, hT, hn, l1, l2, l3, s4, s6, i4, i6, s10, i10⟩ := knr x0 x1 x2
  have a5 : kgd x0 x1 x2 = [] := Bool.cond_self _ _
  have a6 : kga x0 x1 x2 = [] := Bool.cond_self _ _
  have b5 : kg6 x0 x1 x2 = [] := Bool.cond_self _ _
  have b6 : kg5 x0 x1 x2 = [] := Bool.cond_self _ _
  have e0 : kes x0 x1 x2 = kcx x0 x1 x2 := rfl
  have e1 : keh x0 x1 x2 = kcn x0 x1 x2 := rfl
  have e2 : kha x0 x1 x2 = kei x0 x1 x2 := rfl
  have e3 : kh7 x0 x1 x2 = khd x0 x1 x2 := rfl
  have e5 : k45 x0 x1 x2 = [] := b5
  have e7 : k5q x0 x1 x2 = [] := b5
  have e8 : k6o x0 x1 x2 = [] := b6
  have e9 : k81 x0 x1 x2 = [] := b6
  have f5 : ken x0 x1 x2 = [] := a5
  have f7 : kel x0 x1 x2 = [] := a5
  have f8 : keq x0 x1 x2 = [] := a6
  have f9 : khc x0 x1 x2 = [] := a6
  have q1 : rideN 1048576 P [] R [] [] [] = true := kfv.2 ⟨by omega, by simp, ⟨by omega, fun x hx => by have := l3 x hx; omega⟩, by simp, by simp, by simp⟩
  have q3 : rideN 9223372036854775807 P [] R [] [] [] = true := knn q1 (by omega)
  have q4 := kn5 q1
  obtain ⟨g1, g2⟩ := knc (kcx x0 x1 x2) (kcn x0 x1 x2) (kei x0 x1 x2) P [] R [] [] [] q3
  have m1 : mkOk 1 (rideT P [] R [] [] []) = true := kcp.2 (by omega)
  have m2 : ltI (1 + (rideT P [] R [] [] [] : Int)) 0 = false := ltI_f (by omega)
  have hU := kng 1 P [] R [] [] [] (by rw [m1, q3]; rfl)
  have nU := kni (k := 1) q3
  have c0 : k1l x0 x1 x2 = false := by
    simp only [k1l, e0, e1, e2, e3, e5, e7, e8, e9, f5, f7, f8, f9, s4, s6, i4, i6, g1]; simp
  have c6 : k27 x0 x1 x2 = 1 + (rideT P [] R [] [] [] : Int) := by
    simp only [k27, k8j, k8b, k8f, k80, k7x, e5, e7, e8, e9, i4, i6]; exact hU
  have c7 : k36 x0 x1 x2 = false := by
    simp only [k36, c6, e5, e7, e8, e9, i4, i6]; simp
  have c8 : k8q x0 x1 x2 = true := by
    simp only [k8q, e0, e1, e5, e7, e8, e9, f5, f7, f8, s4, s6, i4, i6]; exact g2
  have c9 : k85 x0 x1 x2 = true := by
    simp only [k85, k8j, k8b, k8f, k80, k7x, e5, e7, e8, e9, i4, i6, nU, Bool.or_true]
  refine ⟨?_, ?_⟩
  · simp only [kbn, c0, c6, c7, m2, cond_false]
  · simp only [kbl, s10, i10, c0, c6, c7, c8, c9, m1, m2, e5, e7, e8, e9, i4, i6, q3, allT]; rfl

end Go.SX
