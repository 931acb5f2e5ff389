/- Ticks until a controller is active, in plain words. -/
import Derived.Test.YtofbpbijfhfnoaaDa
import Derived.Test.YtofbpbijfhfnoaaPa
namespace Go.SX
open Go.Proofs
set_option maxRecDepth 100000

theorem Src.cond {c : Bool} {a a' s s' : Int} {code : List Int} (h : Src a s code) (h' : Src a' s' code) : Src (bif c then a else a') (bif c then s else s') code := by
  cases c
  · exact h'
  · exact h

theorem drawController_ok {a s : Int} {code : List Int} (h : Src a s code) : spec_l31DrawController_4 a s code = true ∧ Src (spec_l31DrawController_2 a s code) (spec_l31DrawController_3 a s code) code := by
  have p1 := pick_ok (l := [0, 0, 1, 2]) h (by decide)
  have n7 := next_ok 7 p1.2
  have n20 := next_ok 20 n7.2.1
  have c20 := Src.cond (c := spec_l01Pick_0 a s [0, 0, 1, 2] code == 2 && true) n20.2.1 n7.2.1
  have n40 := next_ok 40 c20
  have pA := pick_ok (l := [-1, 3]) n40.2.1 (by decide)
  have pB := pick_ok (l := [-1, 7]) n40.2.1 (by decide)
  refine ⟨?_, ?_⟩
  · simp only [spec_l31DrawController_4, allT, p1.1, n7.1, n20.1, n40.1, pA.1, pB.1, Bool.or_true, cond_true]
  · exact Src.cond pA.2 (Src.cond pB.2 n40.2.1)

theorem drawPair_ok {a s : Int} {code : List Int} (h : Src a s code) : spec_l31DrawPair_6 a s code = true ∧ Src (spec_l31DrawPair_4 a s code) (spec_l31DrawPair_5 a s code) code := by
  have h1 := drawController_ok h
  have h2 := drawController_ok h1.2
  exact ⟨by simp only [spec_l31DrawPair_6, allT, h1.1, h2.1, cond_true], h2.2⟩

theorem drawTicks_ok (code : List Int) (hn : code.length ≤ 4096) (hb : ∀ (i : Nat) (x : Int), code[i]? = some x → 0 ≤ x ∧ x ≤ 255) : spec_DrawTicksToActive_4 code = true := by
  have h0 := from_ok code hn hb
  have h1 := drawPair_ok h0.2
  simp only [spec_DrawTicksToActive_4, allT, h0.1, h1.1, cond_true]

def ptLaw (a b c d : Int) : Bool :=
  bif
        bif
            impl_TicksToActive_1 a b c
                d !=
              spec_TicksToActive_1 a b c
                d then
          true
        else
          impl_TicksToActive_0 a b c
              d !=
            spec_TicksToActive_0 a b c
              d then
      false
    else
      bif
          bif
              impl_TicksToActive_1 a b c
                  d !=
                (0 : Int) then
            true
          else
            decide
              (spec_TicksToActive_0 a b c
                  d <
                (0 : Int)) then
        true
      else
        bif
            bif
                bif
                    bif
                        impl_RunPair_4 a b c
                            d
                            (List.replicate
                              (Int.toNat
                                (spec_TicksToActive_0 a b c
                                  d))
                              ((0 : Int), (0 : Int), false, false)) !=
                          (0 : Int) then
                      true
                    else
                      impl_ActiveCount_1
                          (impl_RunPair_0 a b c
                            d
                            (List.replicate
                              (Int.toNat
                                (spec_TicksToActive_0 a b c
                                  d))
                              ((0 : Int), (0 : Int), false, false)))
                          (impl_RunPair_1 a b c
                            d
                            (List.replicate
                              (Int.toNat
                                (spec_TicksToActive_0 a b c
                                  d))
                              ((0 : Int), (0 : Int), false, false)))
                          (impl_RunPair_2 a b c
                            d
                            (List.replicate
                              (Int.toNat
                                (spec_TicksToActive_0 a b c
                                  d))
                              ((0 : Int), (0 : Int), false, false)))
                          (impl_RunPair_3 a b c
                            d
                            (List.replicate
                              (Int.toNat
                                (spec_TicksToActive_0 a b c
                                  d))
                              ((0 : Int), (0 : Int), false, false))) !=
                        (0 : Int) then
                  true
                else
                  decide
                    (impl_ActiveCount_0
                        (impl_RunPair_0 a b c
                          d
                          (List.replicate
                            (Int.toNat
                              (spec_TicksToActive_0 a b c
                                d))
                            ((0 : Int), (0 : Int), false, false)))
                        (impl_RunPair_1 a b c
                          d
                          (List.replicate
                            (Int.toNat
                              (spec_TicksToActive_0 a b c
                                d))
                            ((0 : Int), (0 : Int), false, false)))
                        (impl_RunPair_2 a b c
                          d
                          (List.replicate
                            (Int.toNat
                              (spec_TicksToActive_0 a b c
                                d))
                            ((0 : Int), (0 : Int), false, false)))
                        (impl_RunPair_3 a b c
                          d
                          (List.replicate
                            (Int.toNat
                              (spec_TicksToActive_0 a b c
                                d))
                            ((0 : Int), (0 : Int), false, false))) <
                      (1 : Int)) then
              true
            else
              decide
                (spec_TicksToActive_0 a b c
                    d >
                  (6 : Int)) then
          false
        else
          bif
              spec_TicksToActive_0 a b c
                  d ==
                (0 : Int) then
            true
          else
            bif
                bif
                    impl_RunPair_4 a b c
                        d
                        (List.replicate
                          (Int.toNat
                            (IntKind.wrap IntKind.i64
                              (spec_TicksToActive_0 a b c
                                  d -
                                (1 : Int))))
                          ((0 : Int), (0 : Int), false, false)) ==
                      (0 : Int) then
                  impl_ActiveCount_1
                      (impl_RunPair_0 a b c
                        d
                        (List.replicate
                          (Int.toNat
                            (IntKind.wrap IntKind.i64
                              (spec_TicksToActive_0 a b c
                                  d -
                                (1 : Int))))
                          ((0 : Int), (0 : Int), false, false)))
                      (impl_RunPair_1 a b c
                        d
                        (List.replicate
                          (Int.toNat
                            (IntKind.wrap IntKind.i64
                              (spec_TicksToActive_0 a b c
                                  d -
                                (1 : Int))))
                          ((0 : Int), (0 : Int), false, false)))
                      (impl_RunPair_2 a b c
                        d
                        (List.replicate
                          (Int.toNat
                            (IntKind.wrap IntKind.i64
                              (spec_TicksToActive_0 a b c
                                  d -
                                (1 : Int))))
                          ((0 : Int), (0 : Int), false, false)))
                      (impl_RunPair_3 a b c
                        d
                        (List.replicate
                          (Int.toNat
                            (IntKind.wrap IntKind.i64
                              (spec_TicksToActive_0 a b c
                                  d -
                                (1 : Int))))
                          ((0 : Int), (0 : Int), false, false))) ==
                    (0 : Int)
                else false then
              impl_ActiveCount_0
                  (impl_RunPair_0 a b c
                    d
                    (List.replicate
                      (Int.toNat
                        (IntKind.wrap IntKind.i64
                          (spec_TicksToActive_0 a b c
                              d -
                            (1 : Int))))
                      ((0 : Int), (0 : Int), false, false)))
                  (impl_RunPair_1 a b c
                    d
                    (List.replicate
                      (Int.toNat
                        (IntKind.wrap IntKind.i64
                          (spec_TicksToActive_0 a b c
                              d -
                            (1 : Int))))
                      ((0 : Int), (0 : Int), false, false)))
                  (impl_RunPair_2 a b c
                    d
                    (List.replicate
                      (Int.toNat
                        (IntKind.wrap IntKind.i64
                          (spec_TicksToActive_0 a b c
                              d -
                            (1 : Int))))
                      ((0 : Int), (0 : Int), false, false)))
                  (impl_RunPair_3 a b c
                    d
                    (List.replicate
                      (Int.toNat
                        (IntKind.wrap IntKind.i64
                          (spec_TicksToActive_0 a b c
                              d -
                            (1 : Int))))
                      ((0 : Int), (0 : Int), false, false))) ==
                (0 : Int)
            else false

def ptNeed (g dr : Bool) (a b c d : Int) : Bool :=
  allT
    [g || dr,
      g ||
        impl_TicksToActive_2 a b c d,
      g ||
        spec_TicksToActive_2 a b c d,
      g ||
        ((bif
              impl_TicksToActive_1 a b c
                  d !=
                spec_TicksToActive_1 a b c
                  d then
            true
          else
            impl_TicksToActive_0 a b c
                d !=
              spec_TicksToActive_0 a b c
                d) ||
          ((bif
                impl_TicksToActive_1 a b c
                    d !=
                  (0 : Int) then
              true
            else
              decide
                (spec_TicksToActive_0 a b c
                    d <
                  (0 : Int))) ||
            decide
              ((0 : Int) ≤
                spec_TicksToActive_0 a b c
                  d))),
      g ||
        ((bif
              impl_TicksToActive_1 a b c
                  d !=
                spec_TicksToActive_1 a b c
                  d then
            true
          else
            impl_TicksToActive_0 a b c
                d !=
              spec_TicksToActive_0 a b c
                d) ||
          ((bif
                impl_TicksToActive_1 a b c
                    d !=
                  (0 : Int) then
              true
            else
              decide
                (spec_TicksToActive_0 a b c
                    d <
                  (0 : Int))) ||
            decide
              (spec_TicksToActive_0 a b c
                  d ≤
                spec_TicksToActive_0 a b c
                  d))),
      g ||
        ((bif
              impl_TicksToActive_1 a b c
                  d !=
                spec_TicksToActive_1 a b c
                  d then
            true
          else
            impl_TicksToActive_0 a b c
                d !=
              spec_TicksToActive_0 a b c
                d) ||
          ((bif
                impl_TicksToActive_1 a b c
                    d !=
                  (0 : Int) then
              true
            else
              decide
                (spec_TicksToActive_0 a b c
                    d <
                  (0 : Int))) ||
            decide
              ((↑(24 : Nat) : Int) *
                  spec_TicksToActive_0 a b c
                    d ≤
                (281474976710656 : Int)))),
      g ||
        ((bif
              impl_TicksToActive_1 a b c
                  d !=
                spec_TicksToActive_1 a b c
                  d then
            true
          else
            impl_TicksToActive_0 a b c
                d !=
              spec_TicksToActive_0 a b c
                d) ||
          ((bif
                impl_TicksToActive_1 a b c
                    d !=
                  (0 : Int) then
              true
            else
              decide
                (spec_TicksToActive_0 a b c
                    d <
                  (0 : Int))) ||
            decide
              (spec_TicksToActive_0 a b c
                  d ≤
                (9223372036854775807 : Int)))),
      g ||
        ((bif
              impl_TicksToActive_1 a b c
                  d !=
                spec_TicksToActive_1 a b c
                  d then
            true
          else
            impl_TicksToActive_0 a b c
                d !=
              spec_TicksToActive_0 a b c
                d) ||
          ((bif
                impl_TicksToActive_1 a b c
                    d !=
                  (0 : Int) then
              true
            else
              decide
                (spec_TicksToActive_0 a b c
                    d <
                  (0 : Int))) ||
            impl_RunPair_5 a b c d
              (List.replicate
                (Int.toNat
                  (spec_TicksToActive_0 a b c
                    d))
                ((0 : Int), (0 : Int), false, false)))),
      g ||
        ((bif
              impl_TicksToActive_1 a b c
                  d !=
                spec_TicksToActive_1 a b c
                  d then
            true
          else
            impl_TicksToActive_0 a b c
                d !=
              spec_TicksToActive_0 a b c
                d) ||
          ((bif
                impl_TicksToActive_1 a b c
                    d !=
                  (0 : Int) then
              true
            else
              decide
                (spec_TicksToActive_0 a b c
                    d <
                  (0 : Int))) ||
            ((bif
                  bif
                      bif
                          impl_RunPair_4 a b c
                              d
                              (List.replicate
                                (Int.toNat
                                  (spec_TicksToActive_0 a b c
                                    d))
                                ((0 : Int), (0 : Int), false, false)) !=
                            (0 : Int) then
                        true
                      else
                        impl_ActiveCount_1
                            (impl_RunPair_0 a b c
                              d
                              (List.replicate
                                (Int.toNat
                                  (spec_TicksToActive_0 a b c
                                    d))
                                ((0 : Int), (0 : Int), false, false)))
                            (impl_RunPair_1 a b c
                              d
                              (List.replicate
                                (Int.toNat
                                  (spec_TicksToActive_0 a b c
                                    d))
                                ((0 : Int), (0 : Int), false, false)))
                            (impl_RunPair_2 a b c
                              d
                              (List.replicate
                                (Int.toNat
                                  (spec_TicksToActive_0 a b c
                                    d))
                                ((0 : Int), (0 : Int), false, false)))
                            (impl_RunPair_3 a b c
                              d
                              (List.replicate
                                (Int.toNat
                                  (spec_TicksToActive_0 a b c
                                    d))
                                ((0 : Int), (0 : Int), false, false))) !=
                          (0 : Int) then
                    true
                  else
                    decide
                      (impl_ActiveCount_0
                          (impl_RunPair_0 a b c
                            d
                            (List.replicate
                              (Int.toNat
                                (spec_TicksToActive_0 a b c
                                  d))
                              ((0 : Int), (0 : Int), false, false)))
                          (impl_RunPair_1 a b c
                            d
                            (List.replicate
                              (Int.toNat
                                (spec_TicksToActive_0 a b c
                                  d))
                              ((0 : Int), (0 : Int), false, false)))
                          (impl_RunPair_2 a b c
                            d
                            (List.replicate
                              (Int.toNat
                                (spec_TicksToActive_0 a b c
                                  d))
                              ((0 : Int), (0 : Int), false, false)))
                          (impl_RunPair_3 a b c
                            d
                            (List.replicate
                              (Int.toNat
                                (spec_TicksToActive_0 a b c
                                  d))
                              ((0 : Int), (0 : Int), false, false))) <
                        (1 : Int)) then
                true
              else
                decide
                  (spec_TicksToActive_0 a b c
                      d >
                    (6 : Int))) ||
              (spec_TicksToActive_0 a b c
                    d ==
                  (0 : Int) ||
                decide
                  ((0 : Int) ≤
                    IntKind.wrap IntKind.i64
                      (spec_TicksToActive_0 a b c
                          d -
                        (1 : Int))))))),
      g ||
        ((bif
              impl_TicksToActive_1 a b c
                  d !=
                spec_TicksToActive_1 a b c
                  d then
            true
          else
            impl_TicksToActive_0 a b c
                d !=
              spec_TicksToActive_0 a b c
                d) ||
          ((bif
                impl_TicksToActive_1 a b c
                    d !=
                  (0 : Int) then
              true
            else
              decide
                (spec_TicksToActive_0 a b c
                    d <
                  (0 : Int))) ||
            ((bif
                  bif
                      bif
                          impl_RunPair_4 a b c
                              d
                              (List.replicate
                                (Int.toNat
                                  (spec_TicksToActive_0 a b c
                                    d))
                                ((0 : Int), (0 : Int), false, false)) !=
                            (0 : Int) then
                        true
                      else
                        impl_ActiveCount_1
                            (impl_RunPair_0 a b c
                              d
                              (List.replicate
                                (Int.toNat
                                  (spec_TicksToActive_0 a b c
                                    d))
                                ((0 : Int), (0 : Int), false, false)))
                            (impl_RunPair_1 a b c
                              d
                              (List.replicate
                                (Int.toNat
                                  (spec_TicksToActive_0 a b c
                                    d))
                                ((0 : Int), (0 : Int), false, false)))
                            (impl_RunPair_2 a b c
                              d
                              (List.replicate
                                (Int.toNat
                                  (spec_TicksToActive_0 a b c
                                    d))
                                ((0 : Int), (0 : Int), false, false)))
                            (impl_RunPair_3 a b c
                              d
                              (List.replicate
                                (Int.toNat
                                  (spec_TicksToActive_0 a b c
                                    d))
                                ((0 : Int), (0 : Int), false, false))) !=
                          (0 : Int) then
                    true
                  else
                    decide
                      (impl_ActiveCount_0
                          (impl_RunPair_0 a b c
                            d
                            (List.replicate
                              (Int.toNat
                                (spec_TicksToActive_0 a b c
                                  d))
                              ((0 : Int), (0 : Int), false, false)))
                          (impl_RunPair_1 a b c
                            d
                            (List.replicate
                              (Int.toNat
                                (spec_TicksToActive_0 a b c
                                  d))
                              ((0 : Int), (0 : Int), false, false)))
                          (impl_RunPair_2 a b c
                            d
                            (List.replicate
                              (Int.toNat
                                (spec_TicksToActive_0 a b c
                                  d))
                              ((0 : Int), (0 : Int), false, false)))
                          (impl_RunPair_3 a b c
                            d
                            (List.replicate
                              (Int.toNat
                                (spec_TicksToActive_0 a b c
                                  d))
                              ((0 : Int), (0 : Int), false, false))) <
                        (1 : Int)) then
                true
              else
                decide
                  (spec_TicksToActive_0 a b c
                      d >
                    (6 : Int))) ||
              (spec_TicksToActive_0 a b c
                    d ==
                  (0 : Int) ||
                decide
                  (IntKind.wrap IntKind.i64
                      (spec_TicksToActive_0 a b c
                          d -
                        (1 : Int)) ≤
                    IntKind.wrap IntKind.i64
                      (spec_TicksToActive_0 a b c
                          d -
                        (1 : Int))))))),
      g ||
        ((bif
              impl_TicksToActive_1 a b c
                  d !=
                spec_TicksToActive_1 a b c
                  d then
            true
          else
            impl_TicksToActive_0 a b c
                d !=
              spec_TicksToActive_0 a b c
                d) ||
          ((bif
                impl_TicksToActive_1 a b c
                    d !=
                  (0 : Int) then
              true
            else
              decide
                (spec_TicksToActive_0 a b c
                    d <
                  (0 : Int))) ||
            ((bif
                  bif
                      bif
                          impl_RunPair_4 a b c
                              d
                              (List.replicate
                                (Int.toNat
                                  (spec_TicksToActive_0 a b c
                                    d))
                                ((0 : Int), (0 : Int), false, false)) !=
                            (0 : Int) then
                        true
                      else
                        impl_ActiveCount_1
                            (impl_RunPair_0 a b c
                              d
                              (List.replicate
                                (Int.toNat
                                  (spec_TicksToActive_0 a b c
                                    d))
                                ((0 : Int), (0 : Int), false, false)))
                            (impl_RunPair_1 a b c
                              d
                              (List.replicate
                                (Int.toNat
                                  (spec_TicksToActive_0 a b c
                                    d))
                                ((0 : Int), (0 : Int), false, false)))
                            (impl_RunPair_2 a b c
                              d
                              (List.replicate
                                (Int.toNat
                                  (spec_TicksToActive_0 a b c
                                    d))
                                ((0 : Int), (0 : Int), false, false)))
                            (impl_RunPair_3 a b c
                              d
                              (List.replicate
                                (Int.toNat
                                  (spec_TicksToActive_0 a b c
                                    d))
                                ((0 : Int), (0 : Int), false, false))) !=
                          (0 : Int) then
                    true
                  else
                    decide
                      (impl_ActiveCount_0
                          (impl_RunPair_0 a b c
                            d
                            (List.replicate
                              (Int.toNat
                                (spec_TicksToActive_0 a b c
                                  d))
                              ((0 : Int), (0 : Int), false, false)))
                          (impl_RunPair_1 a b c
                            d
                            (List.replicate
                              (Int.toNat
                                (spec_TicksToActive_0 a b c
                                  d))
                              ((0 : Int), (0 : Int), false, false)))
                          (impl_RunPair_2 a b c
                            d
                            (List.replicate
                              (Int.toNat
                                (spec_TicksToActive_0 a b c
                                  d))
                              ((0 : Int), (0 : Int), false, false)))
                          (impl_RunPair_3 a b c
                            d
                            (List.replicate
                              (Int.toNat
                                (spec_TicksToActive_0 a b c
                                  d))
                              ((0 : Int), (0 : Int), false, false))) <
                        (1 : Int)) then
                true
              else
                decide
                  (spec_TicksToActive_0 a b c
                      d >
                    (6 : Int))) ||
              (spec_TicksToActive_0 a b c
                    d ==
                  (0 : Int) ||
                decide
                  ((↑(24 : Nat) : Int) *
                      IntKind.wrap IntKind.i64
                        (spec_TicksToActive_0 a b c
                            d -
                          (1 : Int)) ≤
                    (281474976710656 : Int)))))),
      g ||
        ((bif
              impl_TicksToActive_1 a b c
                  d !=
                spec_TicksToActive_1 a b c
                  d then
            true
          else
            impl_TicksToActive_0 a b c
                d !=
              spec_TicksToActive_0 a b c
                d) ||
          ((bif
                impl_TicksToActive_1 a b c
                    d !=
                  (0 : Int) then
              true
            else
              decide
                (spec_TicksToActive_0 a b c
                    d <
                  (0 : Int))) ||
            ((bif
                  bif
                      bif
                          impl_RunPair_4 a b c
                              d
                              (List.replicate
                                (Int.toNat
                                  (spec_TicksToActive_0 a b c
                                    d))
                                ((0 : Int), (0 : Int), false, false)) !=
                            (0 : Int) then
                        true
                      else
                        impl_ActiveCount_1
                            (impl_RunPair_0 a b c
                              d
                              (List.replicate
                                (Int.toNat
                                  (spec_TicksToActive_0 a b c
                                    d))
                                ((0 : Int), (0 : Int), false, false)))
                            (impl_RunPair_1 a b c
                              d
                              (List.replicate
                                (Int.toNat
                                  (spec_TicksToActive_0 a b c
                                    d))
                                ((0 : Int), (0 : Int), false, false)))
                            (impl_RunPair_2 a b c
                              d
                              (List.replicate
                                (Int.toNat
                                  (spec_TicksToActive_0 a b c
                                    d))
                                ((0 : Int), (0 : Int), false, false)))
                            (impl_RunPair_3 a b c
                              d
                              (List.replicate
                                (Int.toNat
                                  (spec_TicksToActive_0 a b c
                                    d))
                                ((0 : Int), (0 : Int), false, false))) !=
                          (0 : Int) then
                    true
                  else
                    decide
                      (impl_ActiveCount_0
                          (impl_RunPair_0 a b c
                            d
                            (List.replicate
                              (Int.toNat
                                (spec_TicksToActive_0 a b c
                                  d))
                              ((0 : Int), (0 : Int), false, false)))
                          (impl_RunPair_1 a b c
                            d
                            (List.replicate
                              (Int.toNat
                                (spec_TicksToActive_0 a b c
                                  d))
                              ((0 : Int), (0 : Int), false, false)))
                          (impl_RunPair_2 a b c
                            d
                            (List.replicate
                              (Int.toNat
                                (spec_TicksToActive_0 a b c
                                  d))
                              ((0 : Int), (0 : Int), false, false)))
                          (impl_RunPair_3 a b c
                            d
                            (List.replicate
                              (Int.toNat
                                (spec_TicksToActive_0 a b c
                                  d))
                              ((0 : Int), (0 : Int), false, false))) <
                        (1 : Int)) then
                true
              else
                decide
                  (spec_TicksToActive_0 a b c
                      d >
                    (6 : Int))) ||
              (spec_TicksToActive_0 a b c
                    d ==
                  (0 : Int) ||
                decide
                  (IntKind.wrap IntKind.i64
                      (spec_TicksToActive_0 a b c
                          d -
                        (1 : Int)) ≤
                    (9223372036854775807 : Int)))))),
      g ||
        ((bif
              impl_TicksToActive_1 a b c
                  d !=
                spec_TicksToActive_1 a b c
                  d then
            true
          else
            impl_TicksToActive_0 a b c
                d !=
              spec_TicksToActive_0 a b c
                d) ||
          ((bif
                impl_TicksToActive_1 a b c
                    d !=
                  (0 : Int) then
              true
            else
              decide
                (spec_TicksToActive_0 a b c
                    d <
                  (0 : Int))) ||
            ((bif
                  bif
                      bif
                          impl_RunPair_4 a b c
                              d
                              (List.replicate
                                (Int.toNat
                                  (spec_TicksToActive_0 a b c
                                    d))
                                ((0 : Int), (0 : Int), false, false)) !=
                            (0 : Int) then
                        true
                      else
                        impl_ActiveCount_1
                            (impl_RunPair_0 a b c
                              d
                              (List.replicate
                                (Int.toNat
                                  (spec_TicksToActive_0 a b c
                                    d))
                                ((0 : Int), (0 : Int), false, false)))
                            (impl_RunPair_1 a b c
                              d
                              (List.replicate
                                (Int.toNat
                                  (spec_TicksToActive_0 a b c
                                    d))
                                ((0 : Int), (0 : Int), false, false)))
                            (impl_RunPair_2 a b c
                              d
                              (List.replicate
                                (Int.toNat
                                  (spec_TicksToActive_0 a b c
                                    d))
                                ((0 : Int), (0 : Int), false, false)))
                            (impl_RunPair_3 a b c
                              d
                              (List.replicate
                                (Int.toNat
                                  (spec_TicksToActive_0 a b c
                                    d))
                                ((0 : Int), (0 : Int), false, false))) !=
                          (0 : Int) then
                    true
                  else
                    decide
                      (impl_ActiveCount_0
                          (impl_RunPair_0 a b c
                            d
                            (List.replicate
                              (Int.toNat
                                (spec_TicksToActive_0 a b c
                                  d))
                              ((0 : Int), (0 : Int), false, false)))
                          (impl_RunPair_1 a b c
                            d
                            (List.replicate
                              (Int.toNat
                                (spec_TicksToActive_0 a b c
                                  d))
                              ((0 : Int), (0 : Int), false, false)))
                          (impl_RunPair_2 a b c
                            d
                            (List.replicate
                              (Int.toNat
                                (spec_TicksToActive_0 a b c
                                  d))
                              ((0 : Int), (0 : Int), false, false)))
                          (impl_RunPair_3 a b c
                            d
                            (List.replicate
                              (Int.toNat
                                (spec_TicksToActive_0 a b c
                                  d))
                              ((0 : Int), (0 : Int), false, false))) <
                        (1 : Int)) then
                true
              else
                decide
                  (spec_TicksToActive_0 a b c
                      d >
                    (6 : Int))) ||
              (spec_TicksToActive_0 a b c
                    d ==
                  (0 : Int) ||
                impl_RunPair_5 a b c d
                  (List.replicate
                    (Int.toNat
                      (IntKind.wrap IntKind.i64
                        (spec_TicksToActive_0 a b c
                            d -
                          (1 : Int))))
                    ((0 : Int), (0 : Int), false, false))))))]

theorem pt_eq (x0 : List Int) : laws_FnPairTicks_0 x0 = bif laws_big_0 x0 then true else ptLaw (spec_DrawTicksToActive_0 x0) (spec_DrawTicksToActive_1 x0) (spec_DrawTicksToActive_2 x0) (spec_DrawTicksToActive_3 x0) := rfl

theorem pt_need (x0 : List Int) : laws_FnPairTicks_1 x0 = ptNeed (laws_big_0 x0) (spec_DrawTicksToActive_4 x0) (spec_DrawTicksToActive_0 x0) (spec_DrawTicksToActive_1 x0) (spec_DrawTicksToActive_2 x0) (spec_DrawTicksToActive_3 x0) := rfl

theorem ptAll : ((upTo 3).all fun a => (upTo 7).all fun b => (upTo 3).all fun c => (upTo 7).all fun d => !isP ((a, b), (c, d)) || (ptLaw a b c d && ptNeed false true a b c d)) = true := by kernel_rfl

theorem pt_ok (a b c d : Int) : ptLaw a b c d = true ∧ ptNeed false true a b c d = true := by
  cases h : isP ((a, b), (c, d)) with
  | true =>
    have hr := range_of _ h
    simp only at hr
    obtain ⟨⟨h1, h2⟩, ⟨h3, h4⟩, ⟨h5, h6⟩, h7, h8⟩ := hr
    have t := ptAll
    simp only [List.all_eq_true] at t
    have t := t a (mem_upTo h1 (by omega)) b (mem_upTo h3 (by omega)) c (mem_upTo h5 (by omega)) d (mem_upTo h7 (by omega))
    rw [h] at t
    simpa using t
  | false =>
    have hi : impl_IsPair_0 a b c d = false := h
    have hs : spec_IsPair_0 a b c d = false := by rw [isPair_eq]; exact hi
    have i0 : impl_TicksToActive_0 a b c d = 0 := by simp [impl_TicksToActive_0, hi]
    have i1 : impl_TicksToActive_1 a b c d = 1 := by simp [impl_TicksToActive_1, hi]
    have i2 : impl_TicksToActive_2 a b c d = true := by simp [impl_TicksToActive_2, hi, allT]
    have s0 : spec_TicksToActive_0 a b c d = 0 := by simp [spec_TicksToActive_0, hs]
    have s1 : spec_TicksToActive_1 a b c d = 1 := by simp [spec_TicksToActive_1, hs]
    have s2 : spec_TicksToActive_2 a b c d = true := by simp [spec_TicksToActive_2, hs, allT]
    have e1 : ((1 : Int) != 1) = false := rfl
    have e2 : ((0 : Int) != 0) = false := rfl
    have e3 : ((1 : Int) != 0) = true := rfl
    refine ⟨?_, ?_⟩
    · simp only [ptLaw, i0, i1, s0, s1, e1, e2, e3, cond_true, cond_false]
    · simp only [ptNeed, i0, i1, i2, s0, s1, s2, e1, e2, e3, allT, cond_true, cond_false, Bool.or_true, Bool.true_or, Bool.false_or]

theorem law_PairTicks (x0 : List Int) (hb : ∀ (i : Nat) (x : Int), x0[i]? = some x → 0 ≤ x ∧ x ≤ 255) : laws_FnPairTicks_0 x0 = true ∧ laws_FnPairTicks_1 x0 = true := by
  rw [pt_eq, pt_need]
  cases hg : laws_big_0 x0 with
  | true =>
    refine ⟨rfl, ?_⟩
    simp only [ptNeed, allT, Bool.true_or, cond_true]
  | false =>
    have hn : x0.length ≤ 4096 := by
      have := of_decide_eq_false hg
      omega
    rw [drawTicks_ok x0 hn hb]
    exact pt_ok _ _ _ _

end Go.SX
