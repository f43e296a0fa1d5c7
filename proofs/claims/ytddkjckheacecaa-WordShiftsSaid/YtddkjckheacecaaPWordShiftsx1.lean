-- written by wip/print2.py
import Derived.Test.YtddkjckheacecaaPWordShiftsx0
namespace Go.Proofs.Ytddkjckheacecaa.PWordShifts
open Go.RowKit Go.Proofs.YtddkjckheacecaaW.PrintWords Go.Proofs.YtddkjckheacecaaW.PrintLast Go.Proofs.YtddkjckheacecaaW.PrintMore
attribute [local go_sem] max2_int min2_int max_two min_two max_three min_three max_four min_four   -- for this text's walks alone
set_option linter.unusedVariables false
set_option linter.unusedSimpArgs false

/-! ### word_divided: function 31 -/
def word_divided.f (a0 : Int) (a1 : Int) (a2 : Int) : Option (Int × Bool) := if a2 = 0 then (some (0, false)) else (if a0 = 3 then (some (wrap64 (Int.tdiv a1 a2), true)) else (some (Int.tmod a1 a2, true)))
set_option maxHeartbeats 8000000 in
set_option maxRecDepth 100000 in
theorem word_divided.calls (a0 : Int) (a1 : Int) (a2 : Int) (r1 : Int) (r2 : Bool) (w : World) (h : word_divided.f a0 a1 a2 = some (r1, r2)) :
    Calls Try.prog 31 #[.int .i64 a0, .int .i64 a1, .int .i64 a2] w fun e w' => e = .returned (.tuple #[.int .i64 r1, .bool r2]) ∧ Drawn0 w w' := by
  have H : (if a2 = 0 then (some (0, false)) else (if a0 = 3 then (some (wrap64 (Int.tdiv a1 a2), true)) else (some (Int.tmod a1 a2, true)))) = some (r1, r2) := h
  clear h
  by_cases c4 : a2 = 0
  · rw [if_pos c4] at H
    have c4b0 : (a2 == 0) = true := beq_iff_eq.mpr c4
    have c4b1 : (a2 != 0) = false := bne_eq_false_iff_eq.mpr c4
    clear c4
    simp only [Option.some.injEq, Prod.mk.injEq] at H
    obtain ⟨rfl, rfl⟩ := H
    go_enter Try.func31, Try.ntmps31
    go_wp2
    go_ret2
    exact ⟨by first | rfl | (simp; done) | (simp [*]; done), by repeat (first | exact Drawn0.refl _ | apply Drawn0.step)⟩
  · rw [if_neg c4] at H
    have c4b0 : (a2 == 0) = false := beq_eq_false_iff_ne.mpr c4
    have c4b1 : (a2 != 0) = true := bne_iff_ne.mpr c4
    by_cases c5 : a0 = 3
    · rw [if_pos c5] at H
      have c5b0 : (a0 == 3) = true := beq_iff_eq.mpr c5
      have c5b1 : (a0 != 3) = false := bne_eq_false_iff_eq.mpr c5
      clear c5
      simp only [Option.some.injEq, Prod.mk.injEq] at H
      obtain ⟨rfl, rfl⟩ := H
      go_enter Try.func31, Try.ntmps31
      go_wp2
      go_ret2
      exact ⟨by first | rfl | (simp; done) | (simp [*]; done), by repeat (first | exact Drawn0.refl _ | apply Drawn0.step)⟩
    · rw [if_neg c5] at H
      have c5b0 : (a0 == 3) = false := beq_eq_false_iff_ne.mpr c5
      have c5b1 : (a0 != 3) = true := bne_iff_ne.mpr c5
      simp only [Option.some.injEq, Prod.mk.injEq] at H
      obtain ⟨rfl, rfl⟩ := H
      go_enter Try.func31, Try.ntmps31
      go_wp2
      go_ret2
      exact ⟨by first | rfl | (simp; done) | (simp [*]; done), by repeat (first | exact Drawn0.refl _ | apply Drawn0.step)⟩

/-! ### word_truth: function 32 -/
def word_truth.f (a0 : Bool) : Option (Int × Bool) := if a0 = true then (some (1, true)) else (some (0, true))
set_option maxHeartbeats 8000000 in
set_option maxRecDepth 100000 in
theorem word_truth.calls (a0 : Bool) (r1 : Int) (r2 : Bool) (w : World) (h : word_truth.f a0 = some (r1, r2)) :
    Calls Try.prog 32 #[.bool a0] w fun e w' => e = .returned (.tuple #[.int .i64 r1, .bool r2]) ∧ Drawn0 w w' := by
  have H : (if a0 = true then (some (1, true)) else (some (0, true))) = some (r1, r2) := h
  clear h
  by_cases c2 : a0 = true
  · subst c2
    have H1 : (some (1, true)) = some (r1, r2) := by rw [if_pos rfl] at H; exact H
    clear H
    have H := H1
    clear H1
    simp only [Option.some.injEq, Prod.mk.injEq] at H
    obtain ⟨rfl, rfl⟩ := H
    go_enter Try.func32, Try.ntmps32
    go_wp2
    go_ret2
    exact ⟨by first | rfl | (simp; done) | (simp [*]; done), by repeat (first | exact Drawn0.refl _ | apply Drawn0.step)⟩
  · replace c2 := Bool.eq_false_iff.mpr c2
    subst c2
    have H1 : (some (0, true)) = some (r1, r2) := by rw [if_neg (show ¬ (false = true) by decide)] at H; exact H
    clear H
    have H := H1
    clear H1
    simp only [Option.some.injEq, Prod.mk.injEq] at H
    obtain ⟨rfl, rfl⟩ := H
    go_enter Try.func32, Try.ntmps32
    go_wp2
    go_ret2
    exact ⟨by first | rfl | (simp; done) | (simp [*]; done), by repeat (first | exact Drawn0.refl _ | apply Drawn0.step)⟩

/-! ### word_arith: function 20 -/
def word_arith.j0 : Nat → Int → Int → Int → Int → Bool → Option (Int × Bool)
  | 0, _, _, _, _, _ => none
  | k + 1, x0, x1, x2, x8, x24 => if x24 = true then ((word_divided.f x0 x1 x2).bind fun bt101 => (some (bt101.1, bt101.2))) else (if x8 = 5 then (some (Go.bits .and .i64 x1 x2, true)) else (if x8 = 6 then (some (Go.bits .or .i64 x1 x2, true)) else (if x8 = 7 then (some (Go.bits .xor .i64 x1 x2, true)) else (if x8 = 8 then (if 0 ≤ (Go.bits .and .i64 x2 63) then (some (shl .i64 x1 (Go.bits .and .i64 x2 63), true)) else (none)) else (if x8 = 9 then (if 0 ≤ (Go.bits .and .i64 x2 63) then (some (shr .i64 x1 (Go.bits .and .i64 x2 63), true)) else (none)) else (if x8 = 10 then ((word_truth.f (decide (x1 < x2))).bind fun bt103 => (some (bt103.1, bt103.2))) else (if x8 = 11 then ((word_truth.f (decide (x1 ≤ x2))).bind fun bt105 => (some (bt105.1, bt105.2))) else (if x8 = 12 then ((word_truth.f (x1 == x2)).bind fun bt107 => (some (bt107.1, bt107.2))) else (if x8 = 13 then ((word_truth.f (x1 != x2)).bind fun bt109 => (some (bt109.1, bt109.2))) else (some (0, false)))))))))))
def word_arith.f (k : Nat) (a0 : Int) (a1 : Int) (a2 : Int) : Option (Int × Bool) := if a0 = 0 then (some (wrap64 (a1 + a2), true)) else (if a0 = 1 then (some (wrap64 (a1 - a2), true)) else (if a0 = 2 then (some (wrap64 (a1 * a2), true)) else (if a0 = 3 then (word_arith.j0 k a0 a1 a2 a0 (a0 == 3)) else (word_arith.j0 k a0 a1 a2 a0 (a0 == 4)))))
theorem word_arith.mono_l : ∀ k, (∀ y0 y1 y2 y3 y4, LeO (word_arith.j0 k y0 y1 y2 y3 y4) (word_arith.j0 (k + 1) y0 y1 y2 y3 y4))
  | 0 => fun _ _ _ _ _ r h => by simp [word_arith.j0] at h
  | k + 1 => by
    have ih0 := word_arith.mono_l k
    · intro y0 y1 y2 y3 y4
      unfold word_arith.j0
      repeat' first
      | (with_reducible exact ih0 _ _ _ _ _)
      | (with_reducible exact LeO.refl _)
      | (with_reducible exact LeO.none _)
      | (with_reducible refine LeO.ite ?_ ?_)
      | (with_reducible refine LeO.bind ?_ (fun _ => ?_))
      | exact ih0 _ _ _ _ _
      | exact LeO.none _
      | refine LeO.ite ?_ ?_
      | refine LeO.bind ?_ (fun _ => ?_)
theorem word_arith.mono : ∀ a0 a1 a2 k, LeO (word_arith.f k a0 a1 a2) (word_arith.f (k + 1) a0 a1 a2) := by
  intro a0 a1 a2 k
  have ih0 := word_arith.mono_l k
  unfold word_arith.f
  repeat' first
      | (with_reducible exact ih0 _ _ _ _ _)
      | (with_reducible exact LeO.refl _)
      | (with_reducible exact LeO.none _)
      | (with_reducible refine LeO.ite ?_ ?_)
      | (with_reducible refine LeO.bind ?_ (fun _ => ?_))
      | exact ih0 _ _ _ _ _
      | exact LeO.none _
      | refine LeO.ite ?_ ?_
      | refine LeO.bind ?_ (fun _ => ?_)
set_option maxHeartbeats 8000000 in
set_option maxRecDepth 100000 in
theorem word_arith.calls (k : Nat) (a0 : Int) (a1 : Int) (a2 : Int) (r1 : Int) (r2 : Bool) (w : World) (h : word_arith.f k a0 a1 a2 = some (r1, r2)) :
    Calls Try.prog 20 #[.int .i64 a0, .int .i64 a1, .int .i64 a2] w fun e w' => e = .returned (.tuple #[.int .i64 r1, .bool r2]) ∧ Drawn0 w w' := by
  have H : (if a0 = 0 then (some (wrap64 (a1 + a2), true)) else (if a0 = 1 then (some (wrap64 (a1 - a2), true)) else (if a0 = 2 then (some (wrap64 (a1 * a2), true)) else (if a0 = 3 then (word_arith.j0 k a0 a1 a2 a0 (a0 == 3)) else (word_arith.j0 k a0 a1 a2 a0 (a0 == 4)))))) = some (r1, r2) := h
  clear h
  by_cases c4 : a0 = 0
  · rw [if_pos c4] at H
    have c4b0 : (a0 == 0) = true := beq_iff_eq.mpr c4
    have c4b1 : (a0 != 0) = false := bne_eq_false_iff_eq.mpr c4
    clear c4
    simp only [Option.some.injEq, Prod.mk.injEq] at H
    obtain ⟨rfl, rfl⟩ := H
    go_enter Try.func20, Try.ntmps20
    go_wp2
    go_ret2
    exact ⟨by first | rfl | (simp; done) | (simp [*]; done), by repeat (first | exact Drawn0.refl _ | apply Drawn0.step)⟩
  · rw [if_neg c4] at H
    have c4b0 : (a0 == 0) = false := beq_eq_false_iff_ne.mpr c4
    have c4b1 : (a0 != 0) = true := bne_iff_ne.mpr c4
    by_cases c5 : a0 = 1
    · rw [if_pos c5] at H
      have c5b0 : (a0 == 1) = true := beq_iff_eq.mpr c5
      have c5b1 : (a0 != 1) = false := bne_eq_false_iff_eq.mpr c5
      clear c5
      simp only [Option.some.injEq, Prod.mk.injEq] at H
      obtain ⟨rfl, rfl⟩ := H
      go_enter Try.func20, Try.ntmps20
      go_wp2
      go_ret2
      exact ⟨by first | rfl | (simp; done) | (simp [*]; done), by repeat (first | exact Drawn0.refl _ | apply Drawn0.step)⟩
    · rw [if_neg c5] at H
      have c5b0 : (a0 == 1) = false := beq_eq_false_iff_ne.mpr c5
      have c5b1 : (a0 != 1) = true := bne_iff_ne.mpr c5
      by_cases c6 : a0 = 2
      · rw [if_pos c6] at H
        have c6b0 : (a0 == 2) = true := beq_iff_eq.mpr c6
        have c6b1 : (a0 != 2) = false := bne_eq_false_iff_eq.mpr c6
        clear c6
        simp only [Option.some.injEq, Prod.mk.injEq] at H
        obtain ⟨rfl, rfl⟩ := H
        go_enter Try.func20, Try.ntmps20
        go_wp2
        go_ret2
        exact ⟨by first | rfl | (simp; done) | (simp [*]; done), by repeat (first | exact Drawn0.refl _ | apply Drawn0.step)⟩
      · rw [if_neg c6] at H
        have c6b0 : (a0 == 2) = false := beq_eq_false_iff_ne.mpr c6
        have c6b1 : (a0 != 2) = true := bne_iff_ne.mpr c6
        have HC7 := Aside0.mk H
        clear H
        go_enter Try.func20, Try.ntmps20
        go_upto_if 24 with (fail)
        go_cut [24] (fun v24 wc => ∃ (kq : Nat) (x24_6 : Bool), v24 = .bool x24_6 ∧ Aside0 (word_arith.j0 kq a0 a1 a2 a0 x24_6 = some (r1, r2)) ∧ Aside0 (kq ≤ k) ∧ Drawn0 w wc)
        case first =>
          have H := HC7.out
          clear HC7
          by_cases c8 : a0 = 3
          · rw [if_pos c8] at H
            have c8b0 : (a0 == 3) = true := beq_iff_eq.mpr c8
            have c8b1 : (a0 != 3) = false := bne_eq_false_iff_eq.mpr c8
            clear c8
            (first | rw [c8b0] | (simp only [i64_w, i32_w]; rw [c8b0]) | skip)
            have H' := Aside0.mk H
            clear H
            go_wp2
            go_meet
            case rel => exact ⟨_, ((a0 == 3)), (by first | rfl | (simp; done) | (simp [*]; done)), H', ⟨by first | omega | exact Nat.le_refl _⟩, by repeat (first | exact Drawn0.refl _ | apply Drawn0.step)⟩
          · rw [if_neg c8] at H
            have c8b0 : (a0 == 3) = false := beq_eq_false_iff_ne.mpr c8
            have c8b1 : (a0 != 3) = true := bne_iff_ne.mpr c8
            (first | rw [c8b0] | (simp only [i64_w, i32_w]; rw [c8b0]) | skip)
            have H' := Aside0.mk H
            clear H
            go_wp2
            go_meet
            case rel => exact ⟨_, ((a0 == 4)), (by first | rfl | (simp; done) | (simp [*]; done)), H', ⟨by first | omega | exact Nat.le_refl _⟩, by repeat (first | exact Drawn0.refl _ | apply Drawn0.step)⟩
        case rest =>
          clear HC7
          try clear c2
          try clear p2
          try clear c4
          try clear c4b0
          try clear c4b1
          try clear c5
          try clear c5b0
          try clear c5b1
          try clear c6
          try clear c6b0
          try clear c6b1
          try clear p6
          try clear c8
          try clear c8b0
          try clear c8b1
          obtain ⟨kq, x24_6, rfl, HA, HJ6, ⟨mc6, rfl⟩⟩ := hcut
          cases kq with
          | zero => exact absurd HA.out (by simp [word_arith.j0])
          | succ kj6 =>
            have H := HA.out
            clear HA
            simp only [word_arith.j0] at H
            by_cases c9 : x24_6 = true
            · subst c9
              have H1 : ((word_divided.f a0 a1 a2).bind fun bt101 => (some (bt101.1, bt101.2))) = some (r1, r2) := by rw [if_pos rfl] at H; exact H
              clear H
              have H := H1
              clear H1
              replace H := Option.bind_eq_some_iff.mp H
              obtain ⟨⟨t101, t102⟩, A100, H⟩ := H
              replace H : (some (t101, t102)) = some (r1, r2) := H
              have A10 := Aside0.mk A100
              clear A100
              simp only [Option.some.injEq, Prod.mk.injEq] at H
              obtain ⟨rfl, rfl⟩ := H
              go_wp2_with (first | ((with_reducible refine gate_callee (f := 31) rfl ?_); refine goesL_ (some 30) rfl rfl Try.func31 (by kernel_rfl) rfl #[.int .i64 a0, .int .i64 a1, .int .i64 a2] rfl (by (try simp only [List.map_toArray, List.map_cons, List.map_nil]); first | done | rfl | (simp only [List.length_drop, List.length_take]; rfl)) ?_; (with_reducible refine (word_divided.calls a0 a1 a2 t101 t102 _ A10.out).mono ?_); rintro e w' ⟨rfl, ⟨nd, rfl⟩⟩; refine ⟨_, rfl, ?_⟩))
              go_ret2
              exact ⟨by first | rfl | (simp; done) | (simp [*]; done), by repeat (first | exact Drawn0.refl _ | apply Drawn0.step)⟩
            · replace c9 := Bool.eq_false_iff.mpr c9
              subst c9
              have H1 : (if a0 = 5 then (some (Go.bits .and .i64 a1 a2, true)) else (if a0 = 6 then (some (Go.bits .or .i64 a1 a2, true)) else (if a0 = 7 then (some (Go.bits .xor .i64 a1 a2, true)) else (if a0 = 8 then (if 0 ≤ (Go.bits .and .i64 a2 63) then (some (shl .i64 a1 (Go.bits .and .i64 a2 63), true)) else (none)) else (if a0 = 9 then (if 0 ≤ (Go.bits .and .i64 a2 63) then (some (shr .i64 a1 (Go.bits .and .i64 a2 63), true)) else (none)) else (if a0 = 10 then ((word_truth.f (decide (a1 < a2))).bind fun bt103 => (some (bt103.1, bt103.2))) else (if a0 = 11 then ((word_truth.f (decide (a1 ≤ a2))).bind fun bt105 => (some (bt105.1, bt105.2))) else (if a0 = 12 then ((word_truth.f (a1 == a2)).bind fun bt107 => (some (bt107.1, bt107.2))) else (if a0 = 13 then ((word_truth.f (a1 != a2)).bind fun bt109 => (some (bt109.1, bt109.2))) else (some (0, false))))))))))) = some (r1, r2) := by rw [if_neg (show ¬ (false = true) by decide)] at H; exact H
              clear H
              have H := H1
              clear H1
              by_cases c11 : a0 = 5
              · rw [if_pos c11] at H
                have c11b0 : (a0 == 5) = true := beq_iff_eq.mpr c11
                have c11b1 : (a0 != 5) = false := bne_eq_false_iff_eq.mpr c11
                clear c11
                simp only [Option.some.injEq, Prod.mk.injEq] at H
                obtain ⟨rfl, rfl⟩ := H
                go_wp2
                go_ret2
                exact ⟨by first | rfl | (simp; done) | (simp [*]; done), by repeat (first | exact Drawn0.refl _ | apply Drawn0.step)⟩
              · rw [if_neg c11] at H
                have c11b0 : (a0 == 5) = false := beq_eq_false_iff_ne.mpr c11
                have c11b1 : (a0 != 5) = true := bne_iff_ne.mpr c11
                by_cases c12 : a0 = 6
                · rw [if_pos c12] at H
                  have c12b0 : (a0 == 6) = true := beq_iff_eq.mpr c12
                  have c12b1 : (a0 != 6) = false := bne_eq_false_iff_eq.mpr c12
                  clear c12
                  simp only [Option.some.injEq, Prod.mk.injEq] at H
                  obtain ⟨rfl, rfl⟩ := H
                  go_wp2
                  go_ret2
                  exact ⟨by first | rfl | (simp; done) | (simp [*]; done), by repeat (first | exact Drawn0.refl _ | apply Drawn0.step)⟩
                · rw [if_neg c12] at H
                  have c12b0 : (a0 == 6) = false := beq_eq_false_iff_ne.mpr c12
                  have c12b1 : (a0 != 6) = true := bne_iff_ne.mpr c12
                  by_cases c13 : a0 = 7
                  · rw [if_pos c13] at H
                    have c13b0 : (a0 == 7) = true := beq_iff_eq.mpr c13
                    have c13b1 : (a0 != 7) = false := bne_eq_false_iff_eq.mpr c13
                    clear c13
                    simp only [Option.some.injEq, Prod.mk.injEq] at H
                    obtain ⟨rfl, rfl⟩ := H
                    go_wp2
                    go_ret2
                    exact ⟨by first | rfl | (simp; done) | (simp [*]; done), by repeat (first | exact Drawn0.refl _ | apply Drawn0.step)⟩
                  · rw [if_neg c13] at H
                    have c13b0 : (a0 == 7) = false := beq_eq_false_iff_ne.mpr c13
                    have c13b1 : (a0 != 7) = true := bne_iff_ne.mpr c13
                    by_cases c14 : a0 = 8
                    · rw [if_pos c14] at H
                      have c14b0 : (a0 == 8) = true := beq_iff_eq.mpr c14
                      have c14b1 : (a0 != 8) = false := bne_eq_false_iff_eq.mpr c14
                      clear c14
                      by_cases c15 : 0 ≤ (Go.bits .and .i64 a2 63)
                      · rw [if_pos c15] at H
                        have c15b0 := eq_true c15
                        have c15b1 : decide (0 ≤ (Go.bits .and .i64 a2 63)) = true := decide_eq_true c15
                        clear c15
                        obtain ⟨ji16, hji16⟩ : ∃ j_ : Int, (shl .i64 a1 (Go.bits .and .i64 a2 63)) = j_ := ⟨_, rfl⟩
                        replace H : (some (ji16, true)) = some (r1, r2) := by first | (rw [hji16] at H; exact H) | (simp only [hji16] at H ⊢; exact H)
                        have hji16_ : (IntKind.i64.wrap (a1 * 2 ^ min (Go.bits .and .i64 a2 63).toNat 64)) = ji16 := hji16
                        have hji16z : (Go.bits .and .i64 a2 63) ≤ 64 → (IntKind.i64.wrap (a1 * 2 ^ (Go.bits .and .i64 a2 63).toNat)) = ji16 := shl_small hji16
                        have hji16y : (wrap64 (a1 * 2 ^ min (Go.bits .and .i64 a2 63).toNat 64)) = ji16 := (i64_w _).symm.trans hji16_
                        have hji16x : (Go.bits .and .i64 a2 63) ≤ 64 → (wrap64 (a1 * 2 ^ (Go.bits .and .i64 a2 63).toNat)) = ji16 := fun h_ => (i64_w _).symm.trans (hji16z h_)
                        simp only [Option.some.injEq, Prod.mk.injEq] at H
                        obtain ⟨rfl, rfl⟩ := H
                        go_wp2
                        go_ret2
                        exact ⟨by first | rfl | (simp; done) | (simp only [← hji16] <;> (first | rfl | (simp; done))) | (simp [*]; done), by repeat (first | exact Drawn0.refl _ | apply Drawn0.step)⟩
                      · rw [if_neg c15] at H
                        exact absurd H (by simp)
                    · rw [if_neg c14] at H
                      have c14b0 : (a0 == 8) = false := beq_eq_false_iff_ne.mpr c14
                      have c14b1 : (a0 != 8) = true := bne_iff_ne.mpr c14
                      by_cases c17 : a0 = 9
                      · rw [if_pos c17] at H
                        have c17b0 : (a0 == 9) = true := beq_iff_eq.mpr c17
                        have c17b1 : (a0 != 9) = false := bne_eq_false_iff_eq.mpr c17
                        clear c17
                        by_cases c18 : 0 ≤ (Go.bits .and .i64 a2 63)
                        · rw [if_pos c18] at H
                          have c18b0 := eq_true c18
                          have c18b1 : decide (0 ≤ (Go.bits .and .i64 a2 63)) = true := decide_eq_true c18
                          clear c18
                          obtain ⟨ji19, hji19⟩ : ∃ j_ : Int, (shr .i64 a1 (Go.bits .and .i64 a2 63)) = j_ := ⟨_, rfl⟩
                          replace H : (some (ji19, true)) = some (r1, r2) := by first | (rw [hji19] at H; exact H) | (simp only [hji19] at H ⊢; exact H)
                          have hji19_ : (a1 / 2 ^ min (Go.bits .and .i64 a2 63).toNat 64) = ji19 := hji19
                          have hji19z : (Go.bits .and .i64 a2 63) ≤ 64 → (a1 / 2 ^ (Go.bits .and .i64 a2 63).toNat) = ji19 := shr_small hji19
                          simp only [Option.some.injEq, Prod.mk.injEq] at H
                          obtain ⟨rfl, rfl⟩ := H
                          go_wp2
                          go_ret2
                          exact ⟨by first | rfl | (simp; done) | (simp only [← hji19] <;> (first | rfl | (simp; done))) | (simp [*]; done), by repeat (first | exact Drawn0.refl _ | apply Drawn0.step)⟩
                        · rw [if_neg c18] at H
                          exact absurd H (by simp)
                      · rw [if_neg c17] at H
                        have c17b0 : (a0 == 9) = false := beq_eq_false_iff_ne.mpr c17
                        have c17b1 : (a0 != 9) = true := bne_iff_ne.mpr c17
                        by_cases c20 : a0 = 10
                        · rw [if_pos c20] at H
                          have c20b0 : (a0 == 10) = true := beq_iff_eq.mpr c20
                          have c20b1 : (a0 != 10) = false := bne_eq_false_iff_eq.mpr c20
                          clear c20
                          replace H := Option.bind_eq_some_iff.mp H
                          obtain ⟨⟨t103, t104⟩, A210, H⟩ := H
                          replace H : (some (t103, t104)) = some (r1, r2) := H
                          have A21 := Aside0.mk A210
                          clear A210
                          simp only [Option.some.injEq, Prod.mk.injEq] at H
                          obtain ⟨rfl, rfl⟩ := H
                          go_wp2_with (first | ((with_reducible refine gate_callee (f := 32) rfl ?_); refine goesL_ (some 65) rfl rfl Try.func32 (by kernel_rfl) rfl #[.bool (decide (a1 < a2))] rfl (by (try simp only [List.map_toArray, List.map_cons, List.map_nil]); first | done | rfl | (simp only [List.length_drop, List.length_take]; rfl)) ?_; (with_reducible refine (word_truth.calls (decide (a1 < a2)) t103 t104 _ A21.out).mono ?_); rintro e w' ⟨rfl, ⟨nd, rfl⟩⟩; refine ⟨_, rfl, ?_⟩))
                          go_ret2
                          exact ⟨by first | rfl | (simp; done) | (simp [*]; done), by repeat (first | exact Drawn0.refl _ | apply Drawn0.step)⟩
                        · rw [if_neg c20] at H
                          have c20b0 : (a0 == 10) = false := beq_eq_false_iff_ne.mpr c20
                          have c20b1 : (a0 != 10) = true := bne_iff_ne.mpr c20
                          by_cases c22 : a0 = 11
                          · rw [if_pos c22] at H
                            have c22b0 : (a0 == 11) = true := beq_iff_eq.mpr c22
                            have c22b1 : (a0 != 11) = false := bne_eq_false_iff_eq.mpr c22
                            clear c22
                            replace H := Option.bind_eq_some_iff.mp H
                            obtain ⟨⟨t105, t106⟩, A230, H⟩ := H
                            replace H : (some (t105, t106)) = some (r1, r2) := H
                            have A23 := Aside0.mk A230
                            clear A230
                            simp only [Option.some.injEq, Prod.mk.injEq] at H
                            obtain ⟨rfl, rfl⟩ := H
                            go_wp2_with (first | ((with_reducible refine gate_callee (f := 32) rfl ?_); refine goesL_ (some 73) rfl rfl Try.func32 (by kernel_rfl) rfl #[.bool (decide (a1 ≤ a2))] rfl (by (try simp only [List.map_toArray, List.map_cons, List.map_nil]); first | done | rfl | (simp only [List.length_drop, List.length_take]; rfl)) ?_; (with_reducible refine (word_truth.calls (decide (a1 ≤ a2)) t105 t106 _ A23.out).mono ?_); rintro e w' ⟨rfl, ⟨nd, rfl⟩⟩; refine ⟨_, rfl, ?_⟩))
                            go_ret2
                            exact ⟨by first | rfl | (simp; done) | (simp [*]; done), by repeat (first | exact Drawn0.refl _ | apply Drawn0.step)⟩
                          · rw [if_neg c22] at H
                            have c22b0 : (a0 == 11) = false := beq_eq_false_iff_ne.mpr c22
                            have c22b1 : (a0 != 11) = true := bne_iff_ne.mpr c22
                            by_cases c24 : a0 = 12
                            · rw [if_pos c24] at H
                              have c24b0 : (a0 == 12) = true := beq_iff_eq.mpr c24
                              have c24b1 : (a0 != 12) = false := bne_eq_false_iff_eq.mpr c24
                              clear c24
                              replace H := Option.bind_eq_some_iff.mp H
                              obtain ⟨⟨t107, t108⟩, A250, H⟩ := H
                              replace H : (some (t107, t108)) = some (r1, r2) := H
                              have A25 := Aside0.mk A250
                              clear A250
                              simp only [Option.some.injEq, Prod.mk.injEq] at H
                              obtain ⟨rfl, rfl⟩ := H
                              go_wp2_with (first | ((with_reducible refine gate_callee (f := 32) rfl ?_); refine goesL_ (some 81) rfl rfl Try.func32 (by kernel_rfl) rfl #[.bool (a1 == a2)] rfl (by (try simp only [List.map_toArray, List.map_cons, List.map_nil]); first | done | rfl | (simp only [List.length_drop, List.length_take]; rfl)) ?_; (with_reducible refine (word_truth.calls (a1 == a2) t107 t108 _ A25.out).mono ?_); rintro e w' ⟨rfl, ⟨nd, rfl⟩⟩; refine ⟨_, rfl, ?_⟩))
                              go_ret2
                              exact ⟨by first | rfl | (simp; done) | (simp [*]; done), by repeat (first | exact Drawn0.refl _ | apply Drawn0.step)⟩
                            · rw [if_neg c24] at H
                              have c24b0 : (a0 == 12) = false := beq_eq_false_iff_ne.mpr c24
                              have c24b1 : (a0 != 12) = true := bne_iff_ne.mpr c24
                              by_cases c26 : a0 = 13
                              · rw [if_pos c26] at H
                                have c26b0 : (a0 == 13) = true := beq_iff_eq.mpr c26
                                have c26b1 : (a0 != 13) = false := bne_eq_false_iff_eq.mpr c26
                                clear c26
                                replace H := Option.bind_eq_some_iff.mp H
                                obtain ⟨⟨t109, t110⟩, A270, H⟩ := H
                                replace H : (some (t109, t110)) = some (r1, r2) := H
                                have A27 := Aside0.mk A270
                                clear A270
                                simp only [Option.some.injEq, Prod.mk.injEq] at H
                                obtain ⟨rfl, rfl⟩ := H
                                go_wp2_with (first | ((with_reducible refine gate_callee (f := 32) rfl ?_); refine goesL_ (some 89) rfl rfl Try.func32 (by kernel_rfl) rfl #[.bool (a1 != a2)] rfl (by (try simp only [List.map_toArray, List.map_cons, List.map_nil]); first | done | rfl | (simp only [List.length_drop, List.length_take]; rfl)) ?_; (with_reducible refine (word_truth.calls (a1 != a2) t109 t110 _ A27.out).mono ?_); rintro e w' ⟨rfl, ⟨nd, rfl⟩⟩; refine ⟨_, rfl, ?_⟩))
                                go_ret2
                                exact ⟨by first | rfl | (simp; done) | (simp [*]; done), by repeat (first | exact Drawn0.refl _ | apply Drawn0.step)⟩
                              · rw [if_neg c26] at H
                                have c26b0 : (a0 == 13) = false := beq_eq_false_iff_ne.mpr c26
                                have c26b1 : (a0 != 13) = true := bne_iff_ne.mpr c26
                                simp only [Option.some.injEq, Prod.mk.injEq] at H
                                obtain ⟨rfl, rfl⟩ := H
                                go_wp2
                                go_ret2
                                exact ⟨by first | rfl | (simp; done) | (simp [*]; done), by repeat (first | exact Drawn0.refl _ | apply Drawn0.step)⟩

/-! ### word_Arith: function 12 -/
def word_Arith.f (k : Nat) (a0 : Int) (a1 : Int) (a2 : Int) : Option (Int × Bool) := (word_arith.f k a0 a1 a2).bind fun bt111 => (some (bt111.1, bt111.2))
theorem word_Arith.mono : ∀ a0 a1 a2 k, LeO (word_Arith.f k a0 a1 a2) (word_Arith.f (k + 1) a0 a1 a2) := by
  intro a0 a1 a2 k
  unfold word_Arith.f
  repeat' first
      | (with_reducible exact word_arith.mono _ _ _ _)
      | (with_reducible exact LeO.refl _)
      | (with_reducible exact LeO.none _)
      | (with_reducible refine LeO.ite ?_ ?_)
      | (with_reducible refine LeO.bind ?_ (fun _ => ?_))
      | exact word_arith.mono _ _ _ _
      | exact LeO.none _
      | refine LeO.ite ?_ ?_
      | refine LeO.bind ?_ (fun _ => ?_)
set_option maxHeartbeats 8000000 in
set_option maxRecDepth 100000 in
theorem word_Arith.calls (k : Nat) (a0 : Int) (a1 : Int) (a2 : Int) (r1 : Int) (r2 : Bool) (w : World) (h : word_Arith.f k a0 a1 a2 = some (r1, r2)) :
    Calls Try.prog 12 #[.int .i64 a0, .int .i64 a1, .int .i64 a2] w fun e w' => e = .returned (.tuple #[.int .i64 r1, .bool r2]) ∧ Drawn0 w w' := by
  have H : ((word_arith.f k a0 a1 a2).bind fun bt111 => (some (bt111.1, bt111.2))) = some (r1, r2) := h
  clear h
  replace H := Option.bind_eq_some_iff.mp H
  obtain ⟨⟨t111, t112⟩, A40, H⟩ := H
  replace H : (some (t111, t112)) = some (r1, r2) := H
  have A4 := Aside0.mk A40
  clear A40
  simp only [Option.some.injEq, Prod.mk.injEq] at H
  obtain ⟨rfl, rfl⟩ := H
  go_enter Try.func12, Try.ntmps12
  go_wp2_with (first | ((with_reducible refine gate_callee (f := 20) rfl ?_); refine goesL_ (some 11) rfl rfl Try.func20 (by kernel_rfl) rfl #[.int .i64 a0, .int .i64 a1, .int .i64 a2] rfl (by (try simp only [List.map_toArray, List.map_cons, List.map_nil]); first | done | rfl | (simp only [List.length_drop, List.length_take]; rfl)) ?_; (with_reducible refine (word_arith.calls k a0 a1 a2 t111 t112 _ A4.out).mono ?_); rintro e w' ⟨rfl, ⟨nd, rfl⟩⟩; refine ⟨_, rfl, ?_⟩))
  go_ret2
  exact ⟨by first | rfl | (simp; done) | (simp [*]; done), by repeat (first | exact Drawn0.refl _ | apply Drawn0.step)⟩

/-! ### hallmarklaw01_is: function 14 -/
def hallmarklaw01_is.f (k : Nat) (a0 : Int) (a1 : Int) (a2 : Int) (a3 : Int) : Option (Bool) := (word_Arith.f k a0 a1 a2).bind fun bt113 => (if bt113.2 = true then (some (bt113.1 == a3)) else (some false))
theorem hallmarklaw01_is.mono : ∀ a0 a1 a2 a3 k, LeO (hallmarklaw01_is.f k a0 a1 a2 a3) (hallmarklaw01_is.f (k + 1) a0 a1 a2 a3) := by
  intro a0 a1 a2 a3 k
  unfold hallmarklaw01_is.f
  repeat' first
      | (with_reducible exact word_Arith.mono _ _ _ _)
      | (with_reducible exact LeO.refl _)
      | (with_reducible exact LeO.none _)
      | (with_reducible refine LeO.ite ?_ ?_)
      | (with_reducible refine LeO.bind ?_ (fun _ => ?_))
      | exact word_Arith.mono _ _ _ _
      | exact LeO.none _
      | refine LeO.ite ?_ ?_
      | refine LeO.bind ?_ (fun _ => ?_)
set_option maxHeartbeats 8000000 in
set_option maxRecDepth 100000 in
theorem hallmarklaw01_is.calls (k : Nat) (a0 : Int) (a1 : Int) (a2 : Int) (a3 : Int) (r : Bool) (w : World) (h : hallmarklaw01_is.f k a0 a1 a2 a3 = some r) :
    Calls Try.prog 14 #[.int .i64 a0, .int .i64 a1, .int .i64 a2, .int .i64 a3] w fun e w' => e = .returned (.bool r) ∧ Drawn0 w w' := by
  have H : ((word_Arith.f k a0 a1 a2).bind fun bt113 => (if bt113.2 = true then (some (bt113.1 == a3)) else (some false))) = some r := h
  clear h
  replace H := Option.bind_eq_some_iff.mp H
  obtain ⟨⟨t113, t114⟩, A50, H⟩ := H
  replace H : (if t114 = true then (some (t113 == a3)) else (some false)) = some r := H
  have A5 := Aside0.mk A50
  clear A50
  by_cases c6 : t114 = true
  · subst c6
    have H1 : (some (t113 == a3)) = some r := by rw [if_pos rfl] at H; exact H
    clear H
    have H := H1
    clear H1
    obtain rfl := Option.some.inj H
    go_enter Try.func14, Try.ntmps14
    go_wp2_with (first | ((with_reducible refine gate_callee (f := 12) rfl ?_); refine goesL_ (some 15) rfl rfl Try.func12 (by kernel_rfl) rfl #[.int .i64 a0, .int .i64 a1, .int .i64 a2] rfl (by (try simp only [List.map_toArray, List.map_cons, List.map_nil]); first | done | rfl | (simp only [List.length_drop, List.length_take]; rfl)) ?_; (with_reducible refine (word_Arith.calls k a0 a1 a2 t113 true _ A5.out).mono ?_); rintro e w' ⟨rfl, ⟨nd, rfl⟩⟩; refine ⟨_, rfl, ?_⟩))
    go_ret
    exact ⟨by first | rfl | (simp; done) | (simp [*]; done), by repeat (first | exact Drawn0.refl _ | apply Drawn0.step)⟩
  · replace c6 := Bool.eq_false_iff.mpr c6
    subst c6
    have H1 : (some false) = some r := by rw [if_neg (show ¬ (false = true) by decide)] at H; exact H
    clear H
    have H := H1
    clear H1
    obtain rfl := Option.some.inj H
    go_enter Try.func14, Try.ntmps14
    go_wp2_with (first | ((with_reducible refine gate_callee (f := 12) rfl ?_); refine goesL_ (some 15) rfl rfl Try.func12 (by kernel_rfl) rfl #[.int .i64 a0, .int .i64 a1, .int .i64 a2] rfl (by (try simp only [List.map_toArray, List.map_cons, List.map_nil]); first | done | rfl | (simp only [List.length_drop, List.length_take]; rfl)) ?_; (with_reducible refine (word_Arith.calls k a0 a1 a2 t113 false _ A5.out).mono ?_); rintro e w' ⟨rfl, ⟨nd, rfl⟩⟩; refine ⟨_, rfl, ?_⟩))
    go_ret
    exact ⟨by first | rfl | (simp; done) | (simp [*]; done), by repeat (first | exact Drawn0.refl _ | apply Drawn0.step)⟩

/-! ### hallmarklaw01_WordShifts: function 9 -/
def hallmarklaw01_WordShifts.j0 : Nat → Int → Int → Bool → Option (Bool)
  | 0, _, _, _ => none
  | k + 1, x0, x5, x38 => if x38 = true then (some false) else (if 0 ≤ (IntKind.u64.wrap (x5)) then ((word_Arith.f k 8 (shr .i64 x0 (IntKind.u64.wrap (x5))) x5).bind fun bt119 => ((hallmarklaw01_is.f k 9 bt119.1 x5 (shr .i64 x0 (IntKind.u64.wrap (x5)))).bind fun t121 => (if t121 = true then ((hallmarklaw01_is.f k 9 x0 x5 (shr .i64 x0 (IntKind.u64.wrap (x5)))).bind fun t122 => (some t122)) else (some false)))) else (none))
def hallmarklaw01_WordShifts.f (k : Nat) (a0 : Int) (a1 : Int) : Option (Bool) := if 0 ≤ (IntKind.u64.wrap (wrap64 (Int.tmod a1 63))) then ((word_Arith.f k 2 a0 (shl .i64 1 (IntKind.u64.wrap (wrap64 (Int.tmod a1 63))))).bind fun bt115 => (if bt115.2 = true then ((hallmarklaw01_is.f k 8 a0 (wrap64 (Int.tmod a1 63)) bt115.1).bind fun t117 => (if t117 = true then ((hallmarklaw01_is.f k 8 a0 (wrap64 ((wrap64 (Int.tmod a1 63)) + 64)) bt115.1).bind fun t118 => (hallmarklaw01_WordShifts.j0 k a0 (wrap64 (Int.tmod a1 63)) (!t118))) else (hallmarklaw01_WordShifts.j0 k a0 (wrap64 (Int.tmod a1 63)) true))) else (hallmarklaw01_WordShifts.j0 k a0 (wrap64 (Int.tmod a1 63)) true))) else (none)
theorem hallmarklaw01_WordShifts.mono_l : ∀ k, (∀ y0 y1 y2, LeO (hallmarklaw01_WordShifts.j0 k y0 y1 y2) (hallmarklaw01_WordShifts.j0 (k + 1) y0 y1 y2))
  | 0 => fun _ _ _ r h => by simp [hallmarklaw01_WordShifts.j0] at h
  | k + 1 => by
    have ih0 := hallmarklaw01_WordShifts.mono_l k
    · intro y0 y1 y2
      unfold hallmarklaw01_WordShifts.j0
      repeat' first
      | (with_reducible exact ih0 _ _ _)
      | (with_reducible exact hallmarklaw01_is.mono _ _ _ _ _)
      | (with_reducible exact word_Arith.mono _ _ _ _)
      | (with_reducible exact LeO.refl _)
      | (with_reducible exact LeO.none _)
      | (with_reducible refine LeO.ite ?_ ?_)
      | (with_reducible refine LeO.bind ?_ (fun _ => ?_))
      | exact ih0 _ _ _
      | exact hallmarklaw01_is.mono _ _ _ _ _
      | exact word_Arith.mono _ _ _ _
      | exact LeO.none _
      | refine LeO.ite ?_ ?_
      | refine LeO.bind ?_ (fun _ => ?_)
theorem hallmarklaw01_WordShifts.mono : ∀ a0 a1 k, LeO (hallmarklaw01_WordShifts.f k a0 a1) (hallmarklaw01_WordShifts.f (k + 1) a0 a1) := by
  intro a0 a1 k
  have ih0 := hallmarklaw01_WordShifts.mono_l k
  unfold hallmarklaw01_WordShifts.f
  repeat' first
      | (with_reducible exact ih0 _ _ _)
      | (with_reducible exact hallmarklaw01_is.mono _ _ _ _ _)
      | (with_reducible exact word_Arith.mono _ _ _ _)
      | (with_reducible exact LeO.refl _)
      | (with_reducible exact LeO.none _)
      | (with_reducible refine LeO.ite ?_ ?_)
      | (with_reducible refine LeO.bind ?_ (fun _ => ?_))
      | exact ih0 _ _ _
      | exact hallmarklaw01_is.mono _ _ _ _ _
      | exact word_Arith.mono _ _ _ _
      | exact LeO.none _
      | refine LeO.ite ?_ ?_
      | refine LeO.bind ?_ (fun _ => ?_)
set_option maxHeartbeats 8000000 in
set_option maxRecDepth 100000 in
theorem hallmarklaw01_WordShifts.calls (k : Nat) (a0 : Int) (a1 : Int) (r : Bool) (w : World) (h : hallmarklaw01_WordShifts.f k a0 a1 = some r) :
    Calls Try.prog 9 #[.int .i64 a0, .int .u8 a1] w fun e w' => e = .returned (.bool r) ∧ Drawn0 w w' := by
  have H : (if 0 ≤ (IntKind.u64.wrap (wrap64 (Int.tmod a1 63))) then ((word_Arith.f k 2 a0 (shl .i64 1 (IntKind.u64.wrap (wrap64 (Int.tmod a1 63))))).bind fun bt115 => (if bt115.2 = true then ((hallmarklaw01_is.f k 8 a0 (wrap64 (Int.tmod a1 63)) bt115.1).bind fun t117 => (if t117 = true then ((hallmarklaw01_is.f k 8 a0 (wrap64 ((wrap64 (Int.tmod a1 63)) + 64)) bt115.1).bind fun t118 => (hallmarklaw01_WordShifts.j0 k a0 (wrap64 (Int.tmod a1 63)) (!t118))) else (hallmarklaw01_WordShifts.j0 k a0 (wrap64 (Int.tmod a1 63)) true))) else (hallmarklaw01_WordShifts.j0 k a0 (wrap64 (Int.tmod a1 63)) true))) else (none)) = some r := h
  clear h
  obtain ⟨ji3, hji3⟩ : ∃ j_ : Int, (IntKind.u64.wrap (wrap64 (Int.tmod a1 63))) = j_ := ⟨_, rfl⟩
  replace H : (if 0 ≤ (ji3) then ((word_Arith.f k 2 a0 (shl .i64 1 (ji3))).bind fun bt115 => (if bt115.2 = true then ((hallmarklaw01_is.f k 8 a0 (wrap64 (Int.tmod a1 63)) bt115.1).bind fun t117 => (if t117 = true then ((hallmarklaw01_is.f k 8 a0 (wrap64 ((wrap64 (Int.tmod a1 63)) + 64)) bt115.1).bind fun t118 => (hallmarklaw01_WordShifts.j0 k a0 (wrap64 (Int.tmod a1 63)) (!t118))) else (hallmarklaw01_WordShifts.j0 k a0 (wrap64 (Int.tmod a1 63)) true))) else (hallmarklaw01_WordShifts.j0 k a0 (wrap64 (Int.tmod a1 63)) true))) else (none)) = some r := by first | (rw [hji3] at H; exact H) | (simp only [hji3] at H ⊢; exact H)
  by_cases c4 : 0 ≤ (ji3)
  · rw [if_pos c4] at H
    have c4b0 := eq_true c4
    have c4b1 : decide (0 ≤ (ji3)) = true := decide_eq_true c4
    clear c4
    obtain ⟨ji5, hji5⟩ : ∃ j_ : Int, (shl .i64 1 (ji3)) = j_ := ⟨_, rfl⟩
    replace H : ((word_Arith.f k 2 a0 (ji5)).bind fun bt115 => (if bt115.2 = true then ((hallmarklaw01_is.f k 8 a0 (wrap64 (Int.tmod a1 63)) bt115.1).bind fun t117 => (if t117 = true then ((hallmarklaw01_is.f k 8 a0 (wrap64 ((wrap64 (Int.tmod a1 63)) + 64)) bt115.1).bind fun t118 => (hallmarklaw01_WordShifts.j0 k a0 (wrap64 (Int.tmod a1 63)) (!t118))) else (hallmarklaw01_WordShifts.j0 k a0 (wrap64 (Int.tmod a1 63)) true))) else (hallmarklaw01_WordShifts.j0 k a0 (wrap64 (Int.tmod a1 63)) true))) = some r := by first | (rw [hji5] at H; exact H) | (simp only [hji5] at H ⊢; exact H)
    have hji5_ : (IntKind.i64.wrap (1 * 2 ^ min (ji3).toNat 64)) = ji5 := hji5
    have hji5z : (ji3) ≤ 64 → (IntKind.i64.wrap (1 * 2 ^ (ji3).toNat)) = ji5 := shl_small hji5
    have hji5u : (IntKind.i64.wrap (2 ^ min (ji3).toNat 64)) = ji5 := by have h_ := hji5_; rw [Int.one_mul] at h_; exact h_
    have hji5v : (ji3) ≤ 64 → (IntKind.i64.wrap (2 ^ (ji3).toNat)) = ji5 := fun hle_ => by have h_ := hji5z hle_; rw [Int.one_mul] at h_; exact h_
    have hji5y : (wrap64 (1 * 2 ^ min (ji3).toNat 64)) = ji5 := (i64_w _).symm.trans hji5_
    have hji5x : (ji3) ≤ 64 → (wrap64 (1 * 2 ^ (ji3).toNat)) = ji5 := fun h_ => (i64_w _).symm.trans (hji5z h_)
    replace H := Option.bind_eq_some_iff.mp H
    obtain ⟨⟨t115, t116⟩, A60, H⟩ := H
    replace H : (if t116 = true then ((hallmarklaw01_is.f k 8 a0 (wrap64 (Int.tmod a1 63)) t115).bind fun t117 => (if t117 = true then ((hallmarklaw01_is.f k 8 a0 (wrap64 ((wrap64 (Int.tmod a1 63)) + 64)) t115).bind fun t118 => (hallmarklaw01_WordShifts.j0 k a0 (wrap64 (Int.tmod a1 63)) (!t118))) else (hallmarklaw01_WordShifts.j0 k a0 (wrap64 (Int.tmod a1 63)) true))) else (hallmarklaw01_WordShifts.j0 k a0 (wrap64 (Int.tmod a1 63)) true)) = some r := H
    have A6 := Aside0.mk A60
    clear A60
    have HC7 := Aside0.mk H
    clear H
    go_enter Try.func9, Try.ntmps9
    go_upto_region 3 with (first | ((with_reducible refine gate_callee (f := 12) rfl ?_); refine goesL_ (some 19) rfl rfl Try.func12 (by kernel_rfl) rfl #[.int .i64 2, .int .i64 a0, .int .i64 ji5] rfl (by (try simp only [List.map_toArray, List.map_cons, List.map_nil]); first | done | (simp only [hji5]; rfl) | rfl | (simp only [List.length_drop, List.length_take]; rfl)) ?_; (with_reducible refine (word_Arith.calls k 2 a0 ji5 t115 t116 _ A6.out).mono ?_); rintro e w' ⟨rfl, ⟨nd, rfl⟩⟩; refine ⟨_, rfl, ?_⟩))
    (try simp only [Act.put, List.setIfInBounds_toArray, List.set_cons_zero, List.set_cons_succ])
    go_cut [38] (fun v38 wc => ∃ (kq : Nat) (x38_6 : Bool), v38 = .bool x38_6 ∧ Aside0 (hallmarklaw01_WordShifts.j0 kq a0 (wrap64 (Int.tmod a1 63)) x38_6 = some r) ∧ Aside0 (kq ≤ k) ∧ Drawn0 w wc)
    case first =>
      have H := HC7.out
      clear HC7
      by_cases c8 : t116 = true
      · subst c8
        have H1 : ((hallmarklaw01_is.f k 8 a0 (wrap64 (Int.tmod a1 63)) t115).bind fun t117 => (if t117 = true then ((hallmarklaw01_is.f k 8 a0 (wrap64 ((wrap64 (Int.tmod a1 63)) + 64)) t115).bind fun t118 => (hallmarklaw01_WordShifts.j0 k a0 (wrap64 (Int.tmod a1 63)) (!t118))) else (hallmarklaw01_WordShifts.j0 k a0 (wrap64 (Int.tmod a1 63)) true))) = some r := by rw [if_pos rfl] at H; exact H
        clear H
        have H := H1
        clear H1
        replace H := Option.bind_eq_some_iff.mp H
        obtain ⟨t117, A90, H⟩ := H
        replace H : (if t117 = true then ((hallmarklaw01_is.f k 8 a0 (wrap64 ((wrap64 (Int.tmod a1 63)) + 64)) t115).bind fun t118 => (hallmarklaw01_WordShifts.j0 k a0 (wrap64 (Int.tmod a1 63)) (!t118))) else (hallmarklaw01_WordShifts.j0 k a0 (wrap64 (Int.tmod a1 63)) true)) = some r := H
        have A9 := Aside0.mk A90
        clear A90
        by_cases c10 : t117 = true
        · subst c10
          have H1 : ((hallmarklaw01_is.f k 8 a0 (wrap64 ((wrap64 (Int.tmod a1 63)) + 64)) t115).bind fun t118 => (hallmarklaw01_WordShifts.j0 k a0 (wrap64 (Int.tmod a1 63)) (!t118))) = some r := by rw [if_pos rfl] at H; exact H
          clear H
          have H := H1
          clear H1
          replace H := Option.bind_eq_some_iff.mp H
          obtain ⟨t118, A110, H⟩ := H
          replace H : (hallmarklaw01_WordShifts.j0 k a0 (wrap64 (Int.tmod a1 63)) (!t118)) = some r := H
          have A11 := Aside0.mk A110
          clear A110
          have H' := Aside0.mk H
          clear H
          go_wp2_with (first | (go_at_call 14; (with_reducible refine (hallmarklaw01_is.calls k 8 a0 (wrap64 (Int.tmod a1 63)) t115 true _ A9.out).mono ?_); rintro e w' ⟨rfl, ⟨nd, rfl⟩⟩) | (go_at_call 14; (with_reducible refine (hallmarklaw01_is.calls k 8 a0 (wrap64 ((wrap64 (Int.tmod a1 63)) + 64)) t115 t118 _ A11.out).mono ?_); rintro e w' ⟨rfl, ⟨nd, rfl⟩⟩))
          go_meet
          case rel => exact ⟨_, (!t118), (by first | rfl | (simp; done) | (simp [*]; done)), H', ⟨by first | omega | exact Nat.le_refl _⟩, by repeat (first | exact Drawn0.refl _ | apply Drawn0.step)⟩
        · replace c10 := Bool.eq_false_iff.mpr c10
          subst c10
          have H1 : (hallmarklaw01_WordShifts.j0 k a0 (wrap64 (Int.tmod a1 63)) true) = some r := by rw [if_neg (show ¬ (false = true) by decide)] at H; exact H
          clear H
          have H := H1
          clear H1
          have H' := Aside0.mk H
          clear H
          go_wp2_with (first | (go_at_call 14; (with_reducible refine (hallmarklaw01_is.calls k 8 a0 (wrap64 (Int.tmod a1 63)) t115 false _ A9.out).mono ?_); rintro e w' ⟨rfl, ⟨nd, rfl⟩⟩))
          go_meet
          case rel => exact ⟨_, (true), (by first | rfl | (simp; done) | (simp [*]; done)), H', ⟨by first | omega | exact Nat.le_refl _⟩, by repeat (first | exact Drawn0.refl _ | apply Drawn0.step)⟩
      · replace c8 := Bool.eq_false_iff.mpr c8
        subst c8
        have H1 : (hallmarklaw01_WordShifts.j0 k a0 (wrap64 (Int.tmod a1 63)) true) = some r := by rw [if_neg (show ¬ (false = true) by decide)] at H; exact H
        clear H
        have H := H1
        clear H1
        have H' := Aside0.mk H
        clear H
        go_wp2
        go_meet
        case rel => exact ⟨_, (true), (by first | rfl | (simp; done) | (simp [*]; done)), H', ⟨by first | omega | exact Nat.le_refl _⟩, by repeat (first | exact Drawn0.refl _ | apply Drawn0.step)⟩
    case rest =>
      clear HC7
      try clear c1
      try clear p2
      try clear c4
      try clear c4b0
      try clear c4b1
      try clear p6
      try clear c8
      try clear c9
      try clear c10
      obtain ⟨kq, x38_6, rfl, HA, HJ6, ⟨mc6, rfl⟩⟩ := hcut
      cases kq with
      | zero => exact absurd HA.out (by simp [hallmarklaw01_WordShifts.j0])
      | succ kj6 =>
        have H := HA.out
        clear HA
        simp only [hallmarklaw01_WordShifts.j0] at H
        by_cases c12 : x38_6 = true
        · subst c12
          have H1 : (some false) = some r := by rw [if_pos rfl] at H; exact H
          clear H
          have H := H1
          clear H1
          obtain rfl := Option.some.inj H
          go_wp2
          go_ret
          exact ⟨by first | rfl | (simp; done) | (simp only [← hji3, ← hji5] <;> (first | rfl | (simp; done))) | (simp [*]; done), by repeat (first | exact Drawn0.refl _ | apply Drawn0.step)⟩
        · replace c12 := Bool.eq_false_iff.mpr c12
          subst c12
          have H1 : (if 0 ≤ (IntKind.u64.wrap ((wrap64 (Int.tmod a1 63)))) then ((word_Arith.f kj6 8 (shr .i64 a0 (IntKind.u64.wrap ((wrap64 (Int.tmod a1 63))))) (wrap64 (Int.tmod a1 63))).bind fun bt119 => ((hallmarklaw01_is.f kj6 9 bt119.1 (wrap64 (Int.tmod a1 63)) (shr .i64 a0 (IntKind.u64.wrap ((wrap64 (Int.tmod a1 63)))))).bind fun t121 => (if t121 = true then ((hallmarklaw01_is.f kj6 9 a0 (wrap64 (Int.tmod a1 63)) (shr .i64 a0 (IntKind.u64.wrap ((wrap64 (Int.tmod a1 63)))))).bind fun t122 => (some t122)) else (some false)))) else (none)) = some r := by rw [if_neg (show ¬ (false = true) by decide)] at H; exact H
          clear H
          have H := H1
          clear H1
          replace H : (if 0 ≤ (ji3) then ((word_Arith.f kj6 8 (shr .i64 a0 (ji3)) (wrap64 (Int.tmod a1 63))).bind fun bt119 => ((hallmarklaw01_is.f kj6 9 bt119.1 (wrap64 (Int.tmod a1 63)) (shr .i64 a0 (ji3))).bind fun t121 => (if t121 = true then ((hallmarklaw01_is.f kj6 9 a0 (wrap64 (Int.tmod a1 63)) (shr .i64 a0 (ji3))).bind fun t122 => (some t122)) else (some false)))) else (none)) = some r := by first | (rw [hji3] at H; exact H) | (simp only [hji3] at H ⊢; exact H)
          by_cases c14 : 0 ≤ (ji3)
          · rw [if_pos c14] at H
            have c14b0 := eq_true c14
            have c14b1 : decide (0 ≤ (ji3)) = true := decide_eq_true c14
            clear c14
            obtain ⟨ji15, hji15⟩ : ∃ j_ : Int, (shr .i64 a0 (ji3)) = j_ := ⟨_, rfl⟩
            replace H : ((word_Arith.f kj6 8 (ji15) (wrap64 (Int.tmod a1 63))).bind fun bt119 => ((hallmarklaw01_is.f kj6 9 bt119.1 (wrap64 (Int.tmod a1 63)) (ji15)).bind fun t121 => (if t121 = true then ((hallmarklaw01_is.f kj6 9 a0 (wrap64 (Int.tmod a1 63)) (ji15)).bind fun t122 => (some t122)) else (some false)))) = some r := by first | (rw [hji15] at H; exact H) | (simp only [hji15] at H ⊢; exact H)
            have hji15_ : (a0 / 2 ^ min (ji3).toNat 64) = ji15 := hji15
            have hji15z : (ji3) ≤ 64 → (a0 / 2 ^ (ji3).toNat) = ji15 := shr_small hji15
            replace H := Option.bind_eq_some_iff.mp H
            obtain ⟨⟨t119, t120⟩, A160, H⟩ := H
            replace H : ((hallmarklaw01_is.f kj6 9 t119 (wrap64 (Int.tmod a1 63)) (ji15)).bind fun t121 => (if t121 = true then ((hallmarklaw01_is.f kj6 9 a0 (wrap64 (Int.tmod a1 63)) (ji15)).bind fun t122 => (some t122)) else (some false))) = some r := H
            have A16 := Aside0.mk A160
            clear A160
            replace H := Option.bind_eq_some_iff.mp H
            obtain ⟨t121, A170, H⟩ := H
            replace H : (if t121 = true then ((hallmarklaw01_is.f kj6 9 a0 (wrap64 (Int.tmod a1 63)) (ji15)).bind fun t122 => (some t122)) else (some false)) = some r := H
            have A17 := Aside0.mk A170
            clear A170
            by_cases c18 : t121 = true
            · subst c18
              have H1 : ((hallmarklaw01_is.f kj6 9 a0 (wrap64 (Int.tmod a1 63)) (ji15)).bind fun t122 => (some t122)) = some r := by rw [if_pos rfl] at H; exact H
              clear H
              have H := H1
              clear H1
              replace H := Option.bind_eq_some_iff.mp H
              obtain ⟨t122, A190, H⟩ := H
              replace H : (some t122) = some r := H
              have A19 := Aside0.mk A190
              clear A190
              obtain rfl := Option.some.inj H
              go_wp2_with (first | ((with_reducible refine gate_callee (f := 12) rfl ?_); refine goesL_ (some 46) rfl rfl Try.func12 (by kernel_rfl) rfl #[.int .i64 8, .int .i64 ji15, .int .i64 (wrap64 (Int.tmod a1 63))] rfl (by (try simp only [List.map_toArray, List.map_cons, List.map_nil]); first | done | (simp only [hji15]; rfl) | rfl | (simp only [List.length_drop, List.length_take]; rfl)) ?_; (with_reducible refine (word_Arith.calls kj6 8 ji15 (wrap64 (Int.tmod a1 63)) t119 t120 _ A16.out).mono ?_); rintro e w' ⟨rfl, ⟨nd, rfl⟩⟩; refine ⟨_, rfl, ?_⟩) | ((with_reducible refine gate_callee (f := 14) rfl ?_); refine goesL_ (some 52) rfl rfl Try.func14 (by kernel_rfl) rfl #[.int .i64 9, .int .i64 t119, .int .i64 (wrap64 (Int.tmod a1 63)), .int .i64 ji15] rfl (by (try simp only [List.map_toArray, List.map_cons, List.map_nil]); first | done | (simp only [hji15]; rfl) | rfl | (simp only [List.length_drop, List.length_take]; rfl)) ?_; (with_reducible refine (hallmarklaw01_is.calls kj6 9 t119 (wrap64 (Int.tmod a1 63)) ji15 true _ A17.out).mono ?_); rintro e w' ⟨rfl, ⟨nd, rfl⟩⟩; refine ⟨_, rfl, ?_⟩) | (go_at_call 14; (with_reducible refine (hallmarklaw01_is.calls kj6 9 a0 (wrap64 (Int.tmod a1 63)) ji15 t122 _ A19.out).mono ?_); rintro e w' ⟨rfl, ⟨nd, rfl⟩⟩))
              go_ret
              exact ⟨by first | rfl | (simp; done) | (simp only [← hji3, ← hji5, ← hji3, ← hji15] <;> (first | rfl | (simp; done))) | (simp [*]; done), by repeat (first | exact Drawn0.refl _ | apply Drawn0.step)⟩
            · replace c18 := Bool.eq_false_iff.mpr c18
              subst c18
              have H1 : (some false) = some r := by rw [if_neg (show ¬ (false = true) by decide)] at H; exact H
              clear H
              have H := H1
              clear H1
              obtain rfl := Option.some.inj H
              go_wp2_with (first | ((with_reducible refine gate_callee (f := 12) rfl ?_); refine goesL_ (some 46) rfl rfl Try.func12 (by kernel_rfl) rfl #[.int .i64 8, .int .i64 ji15, .int .i64 (wrap64 (Int.tmod a1 63))] rfl (by (try simp only [List.map_toArray, List.map_cons, List.map_nil]); first | done | (simp only [hji15]; rfl) | rfl | (simp only [List.length_drop, List.length_take]; rfl)) ?_; (with_reducible refine (word_Arith.calls kj6 8 ji15 (wrap64 (Int.tmod a1 63)) t119 t120 _ A16.out).mono ?_); rintro e w' ⟨rfl, ⟨nd, rfl⟩⟩; refine ⟨_, rfl, ?_⟩) | ((with_reducible refine gate_callee (f := 14) rfl ?_); refine goesL_ (some 52) rfl rfl Try.func14 (by kernel_rfl) rfl #[.int .i64 9, .int .i64 t119, .int .i64 (wrap64 (Int.tmod a1 63)), .int .i64 ji15] rfl (by (try simp only [List.map_toArray, List.map_cons, List.map_nil]); first | done | (simp only [hji15]; rfl) | rfl | (simp only [List.length_drop, List.length_take]; rfl)) ?_; (with_reducible refine (hallmarklaw01_is.calls kj6 9 t119 (wrap64 (Int.tmod a1 63)) ji15 false _ A17.out).mono ?_); rintro e w' ⟨rfl, ⟨nd, rfl⟩⟩; refine ⟨_, rfl, ?_⟩))
              go_ret
              exact ⟨by first | rfl | (simp; done) | (simp only [← hji3, ← hji5, ← hji3, ← hji15] <;> (first | rfl | (simp; done))) | (simp [*]; done), by repeat (first | exact Drawn0.refl _ | apply Drawn0.step)⟩
          · rw [if_neg c14] at H
            exact absurd H (by simp)
  · rw [if_neg c4] at H
    exact absurd H (by simp)

/-- THE ONE PURE STATEMENT of hallmarklaw01_WordShifts: yours. -/
def hallmarklaw01_WordShifts.Pure : Prop := ∀ (a0 : Int) (a1 : Int), (Lit.int .i64 a0).wf = true → (Lit.int .u8 a1).wf = true → ∃ k, hallmarklaw01_WordShifts.f k a0 a1 = some true
theorem hallmarklaw01_WordShifts.walk (P : hallmarklaw01_WordShifts.Pure) (a0 : Int) (a1 : Int) (w : World) (w0 : (Lit.int .i64 a0).wf = true) (w1 : (Lit.int .u8 a1).wf = true) :
    Calls Try.prog 9 #[.int .i64 a0, .int .u8 a1] w fun e w' => e = .returned (.bool true) ∧ Below w.heap.size w w' := by
  obtain ⟨k, h⟩ := P a0 a1 w0 w1
  refine (hallmarklaw01_WordShifts.calls k a0 a1 true w h).mono ?_
  rintro e w' ⟨rfl, hd⟩
  exact ⟨rfl, hd.below⟩

end Go.Proofs.Ytddkjckheacecaa.PWordShifts
