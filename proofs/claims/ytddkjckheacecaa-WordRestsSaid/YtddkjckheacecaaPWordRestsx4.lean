-- written by wip/print2.py
import Derived.Test.YtddkjckheacecaaPWordRestsx0
import Derived.Test.YtddkjckheacecaaPWordRestsx1
import Derived.Test.YtddkjckheacecaaPWordRestsx3
namespace Go.Proofs.Ytddkjckheacecaa.PWordRests
open Go.RowKit Go.Proofs.YtddkjckheacecaaW.PrintWords Go.Proofs.YtddkjckheacecaaW.PrintLast Go.Proofs.YtddkjckheacecaaW.PrintMore
attribute [local go_sem] max2_int min2_int max_two min_two max_three min_three max_four min_four   -- for this text's walks alone
set_option linter.unusedVariables false
set_option linter.unusedSimpArgs false

/-! ### hallmarklaw01_WordRests: function 5 -/
def hallmarklaw01_WordRests.j0 : Nat → Int → Int → Int → Bool → Int → Bool → Option (Bool)
  | 0, _, _, _, _, _, _ => none
  | k + 1, x0, x1, x5, x6, x7, x43 => if x43 = true then (some false) else ((word_Arith.f k 2 x5 x1).bind fun bt158 => (if x6 = true then ((hallmarklaw01_is.f k 0 bt158.1 x7 x0).bind fun t160 => (if t160 = true then ((hallmarklaw01_is.f k 3 (-7) 2 (-3)).bind fun t161 => (if t161 = true then ((hallmarklaw01_is.f k 4 (-7) 2 (-1)).bind fun t162 => (some t162)) else (some false))) else (some false))) else ((hallmarklaw01_is.f k 3 (-7) 2 (-3)).bind fun t163 => (if t163 = true then ((hallmarklaw01_is.f k 4 (-7) 2 (-1)).bind fun t164 => (some t164)) else (some false)))))
def hallmarklaw01_WordRests.f (k : Nat) (a0 : Int) (a1 : Int) : Option (Bool) := (word_Arith.f k 3 a0 a1).bind fun bt152 => ((word_Arith.f k 4 a0 a1).bind fun bt154 => ((hallmarklaw01_same.f k 3 a0 a1).bind fun t156 => (if t156 = true then ((hallmarklaw01_same.f k 4 a0 a1).bind fun t157 => (if t157 = true then (if (bt152.2 != bt154.2) = true then (hallmarklaw01_WordRests.j0 k a0 a1 bt152.1 bt152.2 bt154.1 true) else (hallmarklaw01_WordRests.j0 k a0 a1 bt152.1 bt152.2 bt154.1 (bt152.2 != (a1 != 0)))) else (hallmarklaw01_WordRests.j0 k a0 a1 bt152.1 bt152.2 bt154.1 true))) else (hallmarklaw01_WordRests.j0 k a0 a1 bt152.1 bt152.2 bt154.1 true))))
theorem hallmarklaw01_WordRests.mono_l : ∀ k, (∀ y0 y1 y2 y3 y4 y5, LeO (hallmarklaw01_WordRests.j0 k y0 y1 y2 y3 y4 y5) (hallmarklaw01_WordRests.j0 (k + 1) y0 y1 y2 y3 y4 y5))
  | 0 => fun _ _ _ _ _ _ r h => by simp [hallmarklaw01_WordRests.j0] at h
  | k + 1 => by
    have ih0 := hallmarklaw01_WordRests.mono_l k
    · intro y0 y1 y2 y3 y4 y5
      unfold hallmarklaw01_WordRests.j0
      repeat' first
      | (with_reducible exact ih0 _ _ _ _ _ _)
      | (with_reducible exact hallmarklaw01_is.mono _ _ _ _ _)
      | (with_reducible exact hallmarklaw01_same.mono _ _ _ _)
      | (with_reducible exact word_Arith.mono _ _ _ _)
      | (with_reducible exact LeO.refl _)
      | (with_reducible exact LeO.none _)
      | (with_reducible refine LeO.ite ?_ ?_)
      | (with_reducible refine LeO.bind ?_ (fun _ => ?_))
      | exact ih0 _ _ _ _ _ _
      | exact hallmarklaw01_is.mono _ _ _ _ _
      | exact hallmarklaw01_same.mono _ _ _ _
      | exact word_Arith.mono _ _ _ _
      | exact LeO.none _
      | refine LeO.ite ?_ ?_
      | refine LeO.bind ?_ (fun _ => ?_)
theorem hallmarklaw01_WordRests.mono : ∀ a0 a1 k, LeO (hallmarklaw01_WordRests.f k a0 a1) (hallmarklaw01_WordRests.f (k + 1) a0 a1) := by
  intro a0 a1 k
  have ih0 := hallmarklaw01_WordRests.mono_l k
  unfold hallmarklaw01_WordRests.f
  repeat' first
      | (with_reducible exact ih0 _ _ _ _ _ _)
      | (with_reducible exact hallmarklaw01_is.mono _ _ _ _ _)
      | (with_reducible exact hallmarklaw01_same.mono _ _ _ _)
      | (with_reducible exact word_Arith.mono _ _ _ _)
      | (with_reducible exact LeO.refl _)
      | (with_reducible exact LeO.none _)
      | (with_reducible refine LeO.ite ?_ ?_)
      | (with_reducible refine LeO.bind ?_ (fun _ => ?_))
      | exact ih0 _ _ _ _ _ _
      | exact hallmarklaw01_is.mono _ _ _ _ _
      | exact hallmarklaw01_same.mono _ _ _ _
      | exact word_Arith.mono _ _ _ _
      | exact LeO.none _
      | refine LeO.ite ?_ ?_
      | refine LeO.bind ?_ (fun _ => ?_)
set_option maxHeartbeats 8000000 in
set_option maxRecDepth 100000 in
theorem hallmarklaw01_WordRests.calls (k : Nat) (a0 : Int) (a1 : Int) (r : Bool) (w : World) (h : hallmarklaw01_WordRests.f k a0 a1 = some r) :
    Calls Try.prog 5 #[.int .i64 a0, .int .i64 a1] w fun e w' => e = .returned (.bool r) ∧ Drawn0 w w' := by
  have H : ((word_Arith.f k 3 a0 a1).bind fun bt152 => ((word_Arith.f k 4 a0 a1).bind fun bt154 => ((hallmarklaw01_same.f k 3 a0 a1).bind fun t156 => (if t156 = true then ((hallmarklaw01_same.f k 4 a0 a1).bind fun t157 => (if t157 = true then (if (bt152.2 != bt154.2) = true then (hallmarklaw01_WordRests.j0 k a0 a1 bt152.1 bt152.2 bt154.1 true) else (hallmarklaw01_WordRests.j0 k a0 a1 bt152.1 bt152.2 bt154.1 (bt152.2 != (a1 != 0)))) else (hallmarklaw01_WordRests.j0 k a0 a1 bt152.1 bt152.2 bt154.1 true))) else (hallmarklaw01_WordRests.j0 k a0 a1 bt152.1 bt152.2 bt154.1 true))))) = some r := h
  clear h
  replace H := Option.bind_eq_some_iff.mp H
  obtain ⟨⟨t152, t153⟩, A30, H⟩ := H
  replace H : ((word_Arith.f k 4 a0 a1).bind fun bt154 => ((hallmarklaw01_same.f k 3 a0 a1).bind fun t156 => (if t156 = true then ((hallmarklaw01_same.f k 4 a0 a1).bind fun t157 => (if t157 = true then (if (t153 != bt154.2) = true then (hallmarklaw01_WordRests.j0 k a0 a1 t152 t153 bt154.1 true) else (hallmarklaw01_WordRests.j0 k a0 a1 t152 t153 bt154.1 (t153 != (a1 != 0)))) else (hallmarklaw01_WordRests.j0 k a0 a1 t152 t153 bt154.1 true))) else (hallmarklaw01_WordRests.j0 k a0 a1 t152 t153 bt154.1 true)))) = some r := H
  have A3 := Aside0.mk A30
  clear A30
  replace H := Option.bind_eq_some_iff.mp H
  obtain ⟨⟨t154, t155⟩, A40, H⟩ := H
  replace H : ((hallmarklaw01_same.f k 3 a0 a1).bind fun t156 => (if t156 = true then ((hallmarklaw01_same.f k 4 a0 a1).bind fun t157 => (if t157 = true then (if (t153 != t155) = true then (hallmarklaw01_WordRests.j0 k a0 a1 t152 t153 t154 true) else (hallmarklaw01_WordRests.j0 k a0 a1 t152 t153 t154 (t153 != (a1 != 0)))) else (hallmarklaw01_WordRests.j0 k a0 a1 t152 t153 t154 true))) else (hallmarklaw01_WordRests.j0 k a0 a1 t152 t153 t154 true))) = some r := H
  have A4 := Aside0.mk A40
  clear A40
  have HC5 := Aside0.mk H
  clear H
  go_enter Try.func5, Try.ntmps5
  go_upto_region 3 with (first | ((with_reducible refine gate_callee (f := 12) rfl ?_); refine goesL_ (some 14) rfl rfl Try.func12 (by kernel_rfl) rfl #[.int .i64 3, .int .i64 a0, .int .i64 a1] rfl (by (try simp only [List.map_toArray, List.map_cons, List.map_nil]); first | done | rfl | (simp only [List.length_drop, List.length_take]; rfl)) ?_; (with_reducible refine (word_Arith.calls k 3 a0 a1 t152 t153 _ A3.out).mono ?_); rintro e w' ⟨rfl, ⟨nd, rfl⟩⟩; refine ⟨_, rfl, ?_⟩) | ((with_reducible refine gate_callee (f := 12) rfl ?_); refine goesL_ (some 20) rfl rfl Try.func12 (by kernel_rfl) rfl #[.int .i64 4, .int .i64 a0, .int .i64 a1] rfl (by (try simp only [List.map_toArray, List.map_cons, List.map_nil]); first | done | rfl | (simp only [List.length_drop, List.length_take]; rfl)) ?_; (with_reducible refine (word_Arith.calls k 4 a0 a1 t154 t155 _ A4.out).mono ?_); rintro e w' ⟨rfl, ⟨nd, rfl⟩⟩; refine ⟨_, rfl, ?_⟩))
  (try simp only [Act.put, List.setIfInBounds_toArray, List.set_cons_zero, List.set_cons_succ])
  go_cut [43] (fun v43 wc => ∃ (kq : Nat) (x43_4 : Bool), v43 = .bool x43_4 ∧ Aside0 (hallmarklaw01_WordRests.j0 kq a0 a1 t152 t153 t154 x43_4 = some r) ∧ Aside0 (kq ≤ k) ∧ Drawn0 w wc)
  case first =>
    have H := HC5.out
    clear HC5
    replace H := Option.bind_eq_some_iff.mp H
    obtain ⟨t156, A60, H⟩ := H
    replace H : (if t156 = true then ((hallmarklaw01_same.f k 4 a0 a1).bind fun t157 => (if t157 = true then (if (t153 != t155) = true then (hallmarklaw01_WordRests.j0 k a0 a1 t152 t153 t154 true) else (hallmarklaw01_WordRests.j0 k a0 a1 t152 t153 t154 (t153 != (a1 != 0)))) else (hallmarklaw01_WordRests.j0 k a0 a1 t152 t153 t154 true))) else (hallmarklaw01_WordRests.j0 k a0 a1 t152 t153 t154 true)) = some r := H
    have A6 := Aside0.mk A60
    clear A60
    by_cases c7 : t156 = true
    · subst c7
      have H1 : ((hallmarklaw01_same.f k 4 a0 a1).bind fun t157 => (if t157 = true then (if (t153 != t155) = true then (hallmarklaw01_WordRests.j0 k a0 a1 t152 t153 t154 true) else (hallmarklaw01_WordRests.j0 k a0 a1 t152 t153 t154 (t153 != (a1 != 0)))) else (hallmarklaw01_WordRests.j0 k a0 a1 t152 t153 t154 true))) = some r := by rw [if_pos rfl] at H; exact H
      clear H
      have H := H1
      clear H1
      replace H := Option.bind_eq_some_iff.mp H
      obtain ⟨t157, A80, H⟩ := H
      replace H : (if t157 = true then (if (t153 != t155) = true then (hallmarklaw01_WordRests.j0 k a0 a1 t152 t153 t154 true) else (hallmarklaw01_WordRests.j0 k a0 a1 t152 t153 t154 (t153 != (a1 != 0)))) else (hallmarklaw01_WordRests.j0 k a0 a1 t152 t153 t154 true)) = some r := H
      have A8 := Aside0.mk A80
      clear A80
      by_cases c9 : t157 = true
      · subst c9
        have H1 : (if (t153 != t155) = true then (hallmarklaw01_WordRests.j0 k a0 a1 t152 t153 t154 true) else (hallmarklaw01_WordRests.j0 k a0 a1 t152 t153 t154 (t153 != (a1 != 0)))) = some r := by rw [if_pos rfl] at H; exact H
        clear H
        have H := H1
        clear H1
        by_cases c10 : (t153 != t155) = true
        · rw [if_pos c10] at H
          have c10b0 : (t153 != t155) = true := c10
          (try (have c10b1 : decide (t153 = t155) = false := by simpa using c10))
          (try (have c10b2 : (t153 == t155) = false := by simpa using c10))
          (try (have c10b3 : ¬ (t153 = t155) := by simpa using c10))
          clear c10
          (first | rw [c10b0] | (simp only [i64_w, i32_w]; rw [c10b0]) | skip)
          have H' := Aside0.mk H
          clear H
          go_wp2_with (first | ((with_reducible refine gate_callee (f := 13) rfl ?_); refine goesL_ (some 25) rfl rfl Try.func13 (by kernel_rfl) rfl #[.int .i64 3, .int .i64 a0, .int .i64 a1] rfl (by (try simp only [List.map_toArray, List.map_cons, List.map_nil]); first | done | rfl | (simp only [List.length_drop, List.length_take]; rfl)) ?_; (with_reducible refine (hallmarklaw01_same.calls k 3 a0 a1 true _ A6.out).mono ?_); rintro e w' ⟨rfl, ⟨nd, rfl⟩⟩; refine ⟨_, rfl, ?_⟩) | (go_at_call 13; (with_reducible refine (hallmarklaw01_same.calls k 4 a0 a1 true _ A8.out).mono ?_); rintro e w' ⟨rfl, ⟨nd, rfl⟩⟩))
          go_meet
          case rel => exact ⟨_, (true), (by first | rfl | (simp; done) | (simp [*]; done)), H', ⟨by first | omega | exact Nat.le_refl _⟩, by repeat (first | exact Drawn0.refl _ | apply Drawn0.step)⟩
        · rw [if_neg c10] at H
          have c10b0 : (t153 != t155) = false := by simpa using c10
          (try (have c10b1 : decide (t153 = t155) = true := by simpa using c10))
          (try (have c10b2 : (t153 == t155) = true := by simpa using c10))
          clear c10
          (first | rw [c10b0] | (simp only [i64_w, i32_w]; rw [c10b0]) | skip)
          have H' := Aside0.mk H
          clear H
          go_wp2_with (first | ((with_reducible refine gate_callee (f := 13) rfl ?_); refine goesL_ (some 25) rfl rfl Try.func13 (by kernel_rfl) rfl #[.int .i64 3, .int .i64 a0, .int .i64 a1] rfl (by (try simp only [List.map_toArray, List.map_cons, List.map_nil]); first | done | rfl | (simp only [List.length_drop, List.length_take]; rfl)) ?_; (with_reducible refine (hallmarklaw01_same.calls k 3 a0 a1 true _ A6.out).mono ?_); rintro e w' ⟨rfl, ⟨nd, rfl⟩⟩; refine ⟨_, rfl, ?_⟩) | (go_at_call 13; (with_reducible refine (hallmarklaw01_same.calls k 4 a0 a1 true _ A8.out).mono ?_); rintro e w' ⟨rfl, ⟨nd, rfl⟩⟩))
          go_meet
          case rel => exact ⟨_, ((t153 != (a1 != 0))), (by first | rfl | (simp; done) | (simp [*]; done)), H', ⟨by first | omega | exact Nat.le_refl _⟩, by repeat (first | exact Drawn0.refl _ | apply Drawn0.step)⟩
      · replace c9 := Bool.eq_false_iff.mpr c9
        subst c9
        have H1 : (hallmarklaw01_WordRests.j0 k a0 a1 t152 t153 t154 true) = some r := by rw [if_neg (show ¬ (false = true) by decide)] at H; exact H
        clear H
        have H := H1
        clear H1
        have H' := Aside0.mk H
        clear H
        go_wp2_with (first | ((with_reducible refine gate_callee (f := 13) rfl ?_); refine goesL_ (some 25) rfl rfl Try.func13 (by kernel_rfl) rfl #[.int .i64 3, .int .i64 a0, .int .i64 a1] rfl (by (try simp only [List.map_toArray, List.map_cons, List.map_nil]); first | done | rfl | (simp only [List.length_drop, List.length_take]; rfl)) ?_; (with_reducible refine (hallmarklaw01_same.calls k 3 a0 a1 true _ A6.out).mono ?_); rintro e w' ⟨rfl, ⟨nd, rfl⟩⟩; refine ⟨_, rfl, ?_⟩) | (go_at_call 13; (with_reducible refine (hallmarklaw01_same.calls k 4 a0 a1 false _ A8.out).mono ?_); rintro e w' ⟨rfl, ⟨nd, rfl⟩⟩))
        go_meet
        case rel => exact ⟨_, (true), (by first | rfl | (simp; done) | (simp [*]; done)), H', ⟨by first | omega | exact Nat.le_refl _⟩, by repeat (first | exact Drawn0.refl _ | apply Drawn0.step)⟩
    · replace c7 := Bool.eq_false_iff.mpr c7
      subst c7
      have H1 : (hallmarklaw01_WordRests.j0 k a0 a1 t152 t153 t154 true) = some r := by rw [if_neg (show ¬ (false = true) by decide)] at H; exact H
      clear H
      have H := H1
      clear H1
      have H' := Aside0.mk H
      clear H
      go_wp2_with (first | ((with_reducible refine gate_callee (f := 13) rfl ?_); refine goesL_ (some 25) rfl rfl Try.func13 (by kernel_rfl) rfl #[.int .i64 3, .int .i64 a0, .int .i64 a1] rfl (by (try simp only [List.map_toArray, List.map_cons, List.map_nil]); first | done | rfl | (simp only [List.length_drop, List.length_take]; rfl)) ?_; (with_reducible refine (hallmarklaw01_same.calls k 3 a0 a1 false _ A6.out).mono ?_); rintro e w' ⟨rfl, ⟨nd, rfl⟩⟩; refine ⟨_, rfl, ?_⟩))
      go_meet
      case rel => exact ⟨_, (true), (by first | rfl | (simp; done) | (simp [*]; done)), H', ⟨by first | omega | exact Nat.le_refl _⟩, by repeat (first | exact Drawn0.refl _ | apply Drawn0.step)⟩
  case rest =>
    clear HC5
    try clear c1
    try clear p2
    try clear c5
    try clear c7
    try clear c9
    try clear c10
    try clear c10b0
    try clear c10b1
    try clear c10b2
    obtain ⟨kq, x43_4, rfl, HA, HJ4, ⟨mc4, rfl⟩⟩ := hcut
    cases kq with
    | zero => exact absurd HA.out (by simp [hallmarklaw01_WordRests.j0])
    | succ kj4 =>
      have H := HA.out
      clear HA
      simp only [hallmarklaw01_WordRests.j0] at H
      by_cases c11 : x43_4 = true
      · subst c11
        have H1 : (some false) = some r := by rw [if_pos rfl] at H; exact H
        clear H
        have H := H1
        clear H1
        obtain rfl := Option.some.inj H
        go_wp2
        go_ret
        exact ⟨by first | rfl | (simp; done) | (simp [*]; done), by repeat (first | exact Drawn0.refl _ | apply Drawn0.step)⟩
      · replace c11 := Bool.eq_false_iff.mpr c11
        subst c11
        have H1 : ((word_Arith.f kj4 2 t152 a1).bind fun bt158 => (if t153 = true then ((hallmarklaw01_is.f kj4 0 bt158.1 t154 a0).bind fun t160 => (if t160 = true then ((hallmarklaw01_is.f kj4 3 (-7) 2 (-3)).bind fun t161 => (if t161 = true then ((hallmarklaw01_is.f kj4 4 (-7) 2 (-1)).bind fun t162 => (some t162)) else (some false))) else (some false))) else ((hallmarklaw01_is.f kj4 3 (-7) 2 (-3)).bind fun t163 => (if t163 = true then ((hallmarklaw01_is.f kj4 4 (-7) 2 (-1)).bind fun t164 => (some t164)) else (some false))))) = some r := by rw [if_neg (show ¬ (false = true) by decide)] at H; exact H
        clear H
        have H := H1
        clear H1
        replace H := Option.bind_eq_some_iff.mp H
        obtain ⟨⟨t158, t159⟩, A120, H⟩ := H
        replace H : (if t153 = true then ((hallmarklaw01_is.f kj4 0 t158 t154 a0).bind fun t160 => (if t160 = true then ((hallmarklaw01_is.f kj4 3 (-7) 2 (-3)).bind fun t161 => (if t161 = true then ((hallmarklaw01_is.f kj4 4 (-7) 2 (-1)).bind fun t162 => (some t162)) else (some false))) else (some false))) else ((hallmarklaw01_is.f kj4 3 (-7) 2 (-3)).bind fun t163 => (if t163 = true then ((hallmarklaw01_is.f kj4 4 (-7) 2 (-1)).bind fun t164 => (some t164)) else (some false)))) = some r := H
        have A12 := Aside0.mk A120
        clear A120
        by_cases c13 : t153 = true
        · subst c13
          have H1 : ((hallmarklaw01_is.f kj4 0 t158 t154 a0).bind fun t160 => (if t160 = true then ((hallmarklaw01_is.f kj4 3 (-7) 2 (-3)).bind fun t161 => (if t161 = true then ((hallmarklaw01_is.f kj4 4 (-7) 2 (-1)).bind fun t162 => (some t162)) else (some false))) else (some false))) = some r := by rw [if_pos rfl] at H; exact H
          clear H
          have H := H1
          clear H1
          replace H := Option.bind_eq_some_iff.mp H
          obtain ⟨t160, A140, H⟩ := H
          replace H : (if t160 = true then ((hallmarklaw01_is.f kj4 3 (-7) 2 (-3)).bind fun t161 => (if t161 = true then ((hallmarklaw01_is.f kj4 4 (-7) 2 (-1)).bind fun t162 => (some t162)) else (some false))) else (some false)) = some r := H
          have A14 := Aside0.mk A140
          clear A140
          by_cases c15 : t160 = true
          · subst c15
            have H1 : ((hallmarklaw01_is.f kj4 3 (-7) 2 (-3)).bind fun t161 => (if t161 = true then ((hallmarklaw01_is.f kj4 4 (-7) 2 (-1)).bind fun t162 => (some t162)) else (some false))) = some r := by rw [if_pos rfl] at H; exact H
            clear H
            have H := H1
            clear H1
            replace H := Option.bind_eq_some_iff.mp H
            obtain ⟨t161, A160, H⟩ := H
            replace H : (if t161 = true then ((hallmarklaw01_is.f kj4 4 (-7) 2 (-1)).bind fun t162 => (some t162)) else (some false)) = some r := H
            have A16 := Aside0.mk A160
            clear A160
            by_cases c17 : t161 = true
            · subst c17
              have H1 : ((hallmarklaw01_is.f kj4 4 (-7) 2 (-1)).bind fun t162 => (some t162)) = some r := by rw [if_pos rfl] at H; exact H
              clear H
              have H := H1
              clear H1
              replace H := Option.bind_eq_some_iff.mp H
              obtain ⟨t162, A180, H⟩ := H
              replace H : (some t162) = some r := H
              have A18 := Aside0.mk A180
              clear A180
              obtain rfl := Option.some.inj H
              go_wp2_with (first | ((with_reducible refine gate_callee (f := 12) rfl ?_); refine goesL_ (some 47) rfl rfl Try.func12 (by kernel_rfl) rfl #[.int .i64 2, .int .i64 t152, .int .i64 a1] rfl (by (try simp only [List.map_toArray, List.map_cons, List.map_nil]); first | done | rfl | (simp only [List.length_drop, List.length_take]; rfl)) ?_; (with_reducible refine (word_Arith.calls kj4 2 t152 a1 t158 t159 _ A12.out).mono ?_); rintro e w' ⟨rfl, ⟨nd, rfl⟩⟩; refine ⟨_, rfl, ?_⟩) | (go_at_call 14; (with_reducible refine (hallmarklaw01_is.calls kj4 0 t158 t154 a0 true _ A14.out).mono ?_); rintro e w' ⟨rfl, ⟨nd, rfl⟩⟩) | (go_at_call 14; (with_reducible refine (hallmarklaw01_is.calls kj4 3 (-7) 2 (-3) true _ A16.out).mono ?_); rintro e w' ⟨rfl, ⟨nd, rfl⟩⟩) | (go_at_call 14; (with_reducible refine (hallmarklaw01_is.calls kj4 4 (-7) 2 (-1) t162 _ A18.out).mono ?_); rintro e w' ⟨rfl, ⟨nd, rfl⟩⟩))
              go_ret
              exact ⟨by first | rfl | (simp; done) | (simp [*]; done), by repeat (first | exact Drawn0.refl _ | apply Drawn0.step)⟩
            · replace c17 := Bool.eq_false_iff.mpr c17
              subst c17
              have H1 : (some false) = some r := by rw [if_neg (show ¬ (false = true) by decide)] at H; exact H
              clear H
              have H := H1
              clear H1
              obtain rfl := Option.some.inj H
              go_wp2_with (first | ((with_reducible refine gate_callee (f := 12) rfl ?_); refine goesL_ (some 47) rfl rfl Try.func12 (by kernel_rfl) rfl #[.int .i64 2, .int .i64 t152, .int .i64 a1] rfl (by (try simp only [List.map_toArray, List.map_cons, List.map_nil]); first | done | rfl | (simp only [List.length_drop, List.length_take]; rfl)) ?_; (with_reducible refine (word_Arith.calls kj4 2 t152 a1 t158 t159 _ A12.out).mono ?_); rintro e w' ⟨rfl, ⟨nd, rfl⟩⟩; refine ⟨_, rfl, ?_⟩) | (go_at_call 14; (with_reducible refine (hallmarklaw01_is.calls kj4 0 t158 t154 a0 true _ A14.out).mono ?_); rintro e w' ⟨rfl, ⟨nd, rfl⟩⟩) | (go_at_call 14; (with_reducible refine (hallmarklaw01_is.calls kj4 3 (-7) 2 (-3) false _ A16.out).mono ?_); rintro e w' ⟨rfl, ⟨nd, rfl⟩⟩))
              go_ret
              exact ⟨by first | rfl | (simp; done) | (simp [*]; done), by repeat (first | exact Drawn0.refl _ | apply Drawn0.step)⟩
          · replace c15 := Bool.eq_false_iff.mpr c15
            subst c15
            have H1 : (some false) = some r := by rw [if_neg (show ¬ (false = true) by decide)] at H; exact H
            clear H
            have H := H1
            clear H1
            obtain rfl := Option.some.inj H
            go_wp2_with (first | ((with_reducible refine gate_callee (f := 12) rfl ?_); refine goesL_ (some 47) rfl rfl Try.func12 (by kernel_rfl) rfl #[.int .i64 2, .int .i64 t152, .int .i64 a1] rfl (by (try simp only [List.map_toArray, List.map_cons, List.map_nil]); first | done | rfl | (simp only [List.length_drop, List.length_take]; rfl)) ?_; (with_reducible refine (word_Arith.calls kj4 2 t152 a1 t158 t159 _ A12.out).mono ?_); rintro e w' ⟨rfl, ⟨nd, rfl⟩⟩; refine ⟨_, rfl, ?_⟩) | (go_at_call 14; (with_reducible refine (hallmarklaw01_is.calls kj4 0 t158 t154 a0 false _ A14.out).mono ?_); rintro e w' ⟨rfl, ⟨nd, rfl⟩⟩))
            go_ret
            exact ⟨by first | rfl | (simp; done) | (simp [*]; done), by repeat (first | exact Drawn0.refl _ | apply Drawn0.step)⟩
        · replace c13 := Bool.eq_false_iff.mpr c13
          subst c13
          have H1 : ((hallmarklaw01_is.f kj4 3 (-7) 2 (-3)).bind fun t163 => (if t163 = true then ((hallmarklaw01_is.f kj4 4 (-7) 2 (-1)).bind fun t164 => (some t164)) else (some false))) = some r := by rw [if_neg (show ¬ (false = true) by decide)] at H; exact H
          clear H
          have H := H1
          clear H1
          replace H := Option.bind_eq_some_iff.mp H
          obtain ⟨t163, A190, H⟩ := H
          replace H : (if t163 = true then ((hallmarklaw01_is.f kj4 4 (-7) 2 (-1)).bind fun t164 => (some t164)) else (some false)) = some r := H
          have A19 := Aside0.mk A190
          clear A190
          by_cases c20 : t163 = true
          · subst c20
            have H1 : ((hallmarklaw01_is.f kj4 4 (-7) 2 (-1)).bind fun t164 => (some t164)) = some r := by rw [if_pos rfl] at H; exact H
            clear H
            have H := H1
            clear H1
            replace H := Option.bind_eq_some_iff.mp H
            obtain ⟨t164, A210, H⟩ := H
            replace H : (some t164) = some r := H
            have A21 := Aside0.mk A210
            clear A210
            obtain rfl := Option.some.inj H
            go_wp2_with (first | ((with_reducible refine gate_callee (f := 12) rfl ?_); refine goesL_ (some 47) rfl rfl Try.func12 (by kernel_rfl) rfl #[.int .i64 2, .int .i64 t152, .int .i64 a1] rfl (by (try simp only [List.map_toArray, List.map_cons, List.map_nil]); first | done | rfl | (simp only [List.length_drop, List.length_take]; rfl)) ?_; (with_reducible refine (word_Arith.calls kj4 2 t152 a1 t158 t159 _ A12.out).mono ?_); rintro e w' ⟨rfl, ⟨nd, rfl⟩⟩; refine ⟨_, rfl, ?_⟩) | (go_at_call 14; (with_reducible refine (hallmarklaw01_is.calls kj4 3 (-7) 2 (-3) true _ A19.out).mono ?_); rintro e w' ⟨rfl, ⟨nd, rfl⟩⟩) | (go_at_call 14; (with_reducible refine (hallmarklaw01_is.calls kj4 4 (-7) 2 (-1) t164 _ A21.out).mono ?_); rintro e w' ⟨rfl, ⟨nd, rfl⟩⟩))
            go_ret
            exact ⟨by first | rfl | (simp; done) | (simp [*]; done), by repeat (first | exact Drawn0.refl _ | apply Drawn0.step)⟩
          · replace c20 := Bool.eq_false_iff.mpr c20
            subst c20
            have H1 : (some false) = some r := by rw [if_neg (show ¬ (false = true) by decide)] at H; exact H
            clear H
            have H := H1
            clear H1
            obtain rfl := Option.some.inj H
            go_wp2_with (first | ((with_reducible refine gate_callee (f := 12) rfl ?_); refine goesL_ (some 47) rfl rfl Try.func12 (by kernel_rfl) rfl #[.int .i64 2, .int .i64 t152, .int .i64 a1] rfl (by (try simp only [List.map_toArray, List.map_cons, List.map_nil]); first | done | rfl | (simp only [List.length_drop, List.length_take]; rfl)) ?_; (with_reducible refine (word_Arith.calls kj4 2 t152 a1 t158 t159 _ A12.out).mono ?_); rintro e w' ⟨rfl, ⟨nd, rfl⟩⟩; refine ⟨_, rfl, ?_⟩) | (go_at_call 14; (with_reducible refine (hallmarklaw01_is.calls kj4 3 (-7) 2 (-3) false _ A19.out).mono ?_); rintro e w' ⟨rfl, ⟨nd, rfl⟩⟩))
            go_ret
            exact ⟨by first | rfl | (simp; done) | (simp [*]; done), by repeat (first | exact Drawn0.refl _ | apply Drawn0.step)⟩

/-- THE ONE PURE STATEMENT of hallmarklaw01_WordRests: yours. -/
def hallmarklaw01_WordRests.Pure : Prop := ∀ (a0 : Int) (a1 : Int), (Lit.int .i64 a0).wf = true → (Lit.int .i64 a1).wf = true → ∃ k, hallmarklaw01_WordRests.f k a0 a1 = some true
theorem hallmarklaw01_WordRests.walk (P : hallmarklaw01_WordRests.Pure) (a0 : Int) (a1 : Int) (w : World) (w0 : (Lit.int .i64 a0).wf = true) (w1 : (Lit.int .i64 a1).wf = true) :
    Calls Try.prog 5 #[.int .i64 a0, .int .i64 a1] w fun e w' => e = .returned (.bool true) ∧ Below w.heap.size w w' := by
  obtain ⟨k, h⟩ := P a0 a1 w0 w1
  refine (hallmarklaw01_WordRests.calls k a0 a1 true w h).mono ?_
  rintro e w' ⟨rfl, hd⟩
  exact ⟨rfl, hd.below⟩

end Go.Proofs.Ytddkjckheacecaa.PWordRests
