-- written by wip/print2.py
import Derived.Test.YtddkjckheacecaaPWordSignsx0
import Derived.Test.YtddkjckheacecaaPWordSignsx1
namespace Go.Proofs.Ytddkjckheacecaa.PWordSigns
open Go.RowKit Go.Proofs.YtddkjckheacecaaW.PrintWords Go.Proofs.YtddkjckheacecaaW.PrintLast Go.Proofs.YtddkjckheacecaaW.PrintMore
attribute [local go_sem] max2_int min2_int max_two min_two max_three min_three max_four min_four   -- for this text's walks alone
set_option linter.unusedVariables false
set_option linter.unusedSimpArgs false

/-! ### hallmarklaw01_WordSigns: function 10 -/
mutual
def hallmarklaw01_WordSigns.j0 : Nat → Int → Int → Bool → Bool → Option (Bool)
  | 0, _, _, _, _ => none
  | k + 1, x0, x7, x8, x9 => (word_Can.f x0).bind fun t117 => (if (t117 != x9) = true then (hallmarklaw01_WordSigns.j1 k x7 x8 x9 true) else ((word_Tells.f x0).bind fun t118 => ((hallmarkref01_Tells.f k x0).bind fun t119 => (hallmarklaw01_WordSigns.j1 k x7 x8 x9 (t118 != t119)))))
def hallmarklaw01_WordSigns.j1 : Nat → Int → Bool → Bool → Bool → Option (Bool)
  | 0, _, _, _, _ => none
  | k + 1, x7, x8, x9, x33 => if x33 = true then (some false) else (if x9 = true then ((word_Can.f 13).bind fun t120 => (if t120 = true then ((word_Tells.f 10).bind fun t121 => (some (t121 == 1))) else (some false))) else (if x7 = 0 then (if x8 = true then (some false) else ((word_Can.f 13).bind fun t122 => (if t122 = true then ((word_Tells.f 10).bind fun t123 => (some (t123 == 1))) else (some false)))) else (some false)))
end
def hallmarklaw01_WordSigns.f (k : Nat) (a0 : Int) (a1 : Int) (a2 : Int) : Option (Bool) := (word_Arith.f k a0 a1 a2).bind fun bt115 => (if a0 ≥ 0 then (hallmarklaw01_WordSigns.j0 k a0 bt115.1 bt115.2 (decide (a0 ≤ 13))) else (hallmarklaw01_WordSigns.j0 k a0 bt115.1 bt115.2 false))
theorem hallmarklaw01_WordSigns.mono_l : ∀ k, (∀ y0 y1 y2 y3, LeO (hallmarklaw01_WordSigns.j0 k y0 y1 y2 y3) (hallmarklaw01_WordSigns.j0 (k + 1) y0 y1 y2 y3)) ∧ (∀ y0 y1 y2 y3, LeO (hallmarklaw01_WordSigns.j1 k y0 y1 y2 y3) (hallmarklaw01_WordSigns.j1 (k + 1) y0 y1 y2 y3))
  | 0 => ⟨fun _ _ _ _ r h => by simp [hallmarklaw01_WordSigns.j0] at h, fun _ _ _ _ r h => by simp [hallmarklaw01_WordSigns.j1] at h⟩
  | k + 1 => by
    obtain ⟨ih0, ih1⟩ := hallmarklaw01_WordSigns.mono_l k
    refine ⟨?_, ?_⟩
    · intro y0 y1 y2 y3
      unfold hallmarklaw01_WordSigns.j0
      repeat' first
      | (with_reducible exact ih0 _ _ _ _)
      | (with_reducible exact ih1 _ _ _ _)
      | (with_reducible exact hallmarkref01_Tells.mono _ _)
      | (with_reducible exact word_Arith.mono _ _ _ _)
      | (with_reducible exact LeO.refl _)
      | (with_reducible exact LeO.none _)
      | (with_reducible refine LeO.ite ?_ ?_)
      | (with_reducible refine LeO.bind ?_ (fun _ => ?_))
      | exact ih0 _ _ _ _
      | exact ih1 _ _ _ _
      | exact hallmarkref01_Tells.mono _ _
      | exact word_Arith.mono _ _ _ _
      | exact LeO.none _
      | refine LeO.ite ?_ ?_
      | refine LeO.bind ?_ (fun _ => ?_)
    · intro y0 y1 y2 y3
      unfold hallmarklaw01_WordSigns.j1
      repeat' first
      | (with_reducible exact ih0 _ _ _ _)
      | (with_reducible exact ih1 _ _ _ _)
      | (with_reducible exact hallmarkref01_Tells.mono _ _)
      | (with_reducible exact word_Arith.mono _ _ _ _)
      | (with_reducible exact LeO.refl _)
      | (with_reducible exact LeO.none _)
      | (with_reducible refine LeO.ite ?_ ?_)
      | (with_reducible refine LeO.bind ?_ (fun _ => ?_))
      | exact ih0 _ _ _ _
      | exact ih1 _ _ _ _
      | exact hallmarkref01_Tells.mono _ _
      | exact word_Arith.mono _ _ _ _
      | exact LeO.none _
      | refine LeO.ite ?_ ?_
      | refine LeO.bind ?_ (fun _ => ?_)
theorem hallmarklaw01_WordSigns.mono : ∀ a0 a1 a2 k, LeO (hallmarklaw01_WordSigns.f k a0 a1 a2) (hallmarklaw01_WordSigns.f (k + 1) a0 a1 a2) := by
  intro a0 a1 a2 k
  obtain ⟨ih0, ih1⟩ := hallmarklaw01_WordSigns.mono_l k
  unfold hallmarklaw01_WordSigns.f
  repeat' first
      | (with_reducible exact ih0 _ _ _ _)
      | (with_reducible exact ih1 _ _ _ _)
      | (with_reducible exact hallmarkref01_Tells.mono _ _)
      | (with_reducible exact word_Arith.mono _ _ _ _)
      | (with_reducible exact LeO.refl _)
      | (with_reducible exact LeO.none _)
      | (with_reducible refine LeO.ite ?_ ?_)
      | (with_reducible refine LeO.bind ?_ (fun _ => ?_))
      | exact ih0 _ _ _ _
      | exact ih1 _ _ _ _
      | exact hallmarkref01_Tells.mono _ _
      | exact word_Arith.mono _ _ _ _
      | exact LeO.none _
      | refine LeO.ite ?_ ?_
      | refine LeO.bind ?_ (fun _ => ?_)
set_option maxHeartbeats 8000000 in
set_option maxRecDepth 100000 in
theorem hallmarklaw01_WordSigns.calls (k : Nat) (a0 : Int) (a1 : Int) (a2 : Int) (r : Bool) (w : World) (h : hallmarklaw01_WordSigns.f k a0 a1 a2 = some r) :
    Calls Try.prog 10 #[.int .i64 a0, .int .i64 a1, .int .i64 a2] w fun e w' => e = .returned (.bool r) ∧ Drawn0 w w' := by
  have H : ((word_Arith.f k a0 a1 a2).bind fun bt115 => (if a0 ≥ 0 then (hallmarklaw01_WordSigns.j0 k a0 bt115.1 bt115.2 (decide (a0 ≤ 13))) else (hallmarklaw01_WordSigns.j0 k a0 bt115.1 bt115.2 false))) = some r := h
  clear h
  replace H := Option.bind_eq_some_iff.mp H
  obtain ⟨⟨t115, t116⟩, A40, H⟩ := H
  replace H : (if a0 ≥ 0 then (hallmarklaw01_WordSigns.j0 k a0 t115 t116 (decide (a0 ≤ 13))) else (hallmarklaw01_WordSigns.j0 k a0 t115 t116 false)) = some r := H
  have A4 := Aside0.mk A40
  clear A40
  have HC5 := Aside0.mk H
  clear H
  go_enter Try.func10, Try.ntmps10
  go_upto_region 2 with (first | ((with_reducible refine gate_callee (f := 12) rfl ?_); refine goesL_ (some 14) rfl rfl Try.func12 (by kernel_rfl) rfl #[.int .i64 a0, .int .i64 a1, .int .i64 a2] rfl (by (try simp only [List.map_toArray, List.map_cons, List.map_nil]); first | done | rfl | (simp only [List.length_drop, List.length_take]; rfl)) ?_; (with_reducible refine (word_Arith.calls k a0 a1 a2 t115 t116 _ A4.out).mono ?_); rintro e w' ⟨rfl, ⟨nd, rfl⟩⟩; refine ⟨_, rfl, ?_⟩))
  (try simp only [Act.put, List.setIfInBounds_toArray, List.set_cons_zero, List.set_cons_succ])
  go_cut [9] (fun v9 wc => ∃ (kq : Nat) (x9_4 : Bool), v9 = .bool x9_4 ∧ Aside0 (hallmarklaw01_WordSigns.j0 kq a0 t115 t116 x9_4 = some r) ∧ Aside0 (kq ≤ k) ∧ Drawn0 w wc)
  case first =>
    have H := HC5.out
    clear HC5
    by_cases c6 : a0 ≥ 0
    · rw [if_pos c6] at H
      have c6b0 : decide (0 ≤ a0) = true := decide_eq_true c6
      clear c6
      (first | rw [c6b0] | (simp only [i64_w, i32_w]; rw [c6b0]) | skip)
      have H' := Aside0.mk H
      clear H
      go_wp2
      go_meet
      case rel => exact ⟨_, (decide (a0 ≤ 13)), (by first | rfl | (simp; done) | (simp [*]; done)), H', ⟨by first | omega | exact Nat.le_refl _⟩, by repeat (first | exact Drawn0.refl _ | apply Drawn0.step)⟩
    · rw [if_neg c6] at H
      have c6b0 : decide (0 ≤ a0) = false := decide_eq_false c6
      clear c6
      (first | rw [c6b0] | (simp only [i64_w, i32_w]; rw [c6b0]) | skip)
      have H' := Aside0.mk H
      clear H
      go_wp2
      go_meet
      case rel => exact ⟨_, (false), (by first | rfl | (simp; done) | (simp [*]; done)), H', ⟨by first | omega | exact Nat.le_refl _⟩, by repeat (first | exact Drawn0.refl _ | apply Drawn0.step)⟩
  case rest =>
    clear HC5
    try clear c1
    try clear p2
    try clear c6
    try clear c6b0
    obtain ⟨kq, x9_4, rfl, HA, HJ4, ⟨mc4, rfl⟩⟩ := hcut
    cases kq with
    | zero => exact absurd HA.out (by simp [hallmarklaw01_WordSigns.j0])
    | succ kj4 =>
      have H := HA.out
      clear HA
      simp only [hallmarklaw01_WordSigns.j0] at H
      have HC7 := Aside0.mk H
      clear H
      go_upto_region 3 with (fail)
      go_cut [33] (fun v33 wc => ∃ (kq : Nat) (x33_6 : Bool), v33 = .bool x33_6 ∧ Aside0 (hallmarklaw01_WordSigns.j1 kq t115 t116 x9_4 x33_6 = some r) ∧ Aside0 (kq ≤ kj4) ∧ Drawn0 w wc)
      case first =>
        have H := HC7.out
        clear HC7
        replace H := Option.bind_eq_some_iff.mp H
        obtain ⟨t117, A80, H⟩ := H
        replace H : (if (t117 != x9_4) = true then (hallmarklaw01_WordSigns.j1 kj4 t115 t116 x9_4 true) else ((word_Tells.f a0).bind fun t118 => ((hallmarkref01_Tells.f kj4 a0).bind fun t119 => (hallmarklaw01_WordSigns.j1 kj4 t115 t116 x9_4 (t118 != t119))))) = some r := H
        have A8 := Aside0.mk A80
        clear A80
        by_cases c9 : (t117 != x9_4) = true
        · rw [if_pos c9] at H
          have c9b0 : (t117 != x9_4) = true := c9
          (try (have c9b1 : decide (t117 = x9_4) = false := by simpa using c9))
          (try (have c9b2 : (t117 == x9_4) = false := by simpa using c9))
          (try (have c9b3 : ¬ (t117 = x9_4) := by simpa using c9))
          clear c9
          (first | rw [c9b0] | (simp only [i64_w, i32_w]; rw [c9b0]) | skip)
          have H' := Aside0.mk H
          clear H
          go_wp2_with (first | ((with_reducible refine gate_callee (f := 15) rfl ?_); refine goesL_ (some 24) rfl rfl Try.func15 (by kernel_rfl) rfl #[.int .i64 a0] rfl (by (try simp only [List.map_toArray, List.map_cons, List.map_nil]); first | done | rfl | (simp only [List.length_drop, List.length_take]; rfl)) ?_; (with_reducible refine (word_Can.calls a0 t117 _ A8.out).mono ?_); rintro e w' ⟨rfl, ⟨nd, rfl⟩⟩; refine ⟨_, rfl, ?_⟩))
          go_meet
          case rel => exact ⟨_, (true), (by first | rfl | (simp; done) | (simp [*]; done)), H', ⟨by have := HJ4.out; first | omega | exact Nat.le_refl _⟩, by repeat (first | exact Drawn0.refl _ | apply Drawn0.step)⟩
        · rw [if_neg c9] at H
          have c9b0 : (t117 != x9_4) = false := by simpa using c9
          (try (have c9b1 : decide (t117 = x9_4) = true := by simpa using c9))
          (try (have c9b2 : (t117 == x9_4) = true := by simpa using c9))
          clear c9
          (first | rw [c9b0] | (simp only [i64_w, i32_w]; rw [c9b0]) | skip)
          replace H := Option.bind_eq_some_iff.mp H
          obtain ⟨t118, A100, H⟩ := H
          replace H : ((hallmarkref01_Tells.f kj4 a0).bind fun t119 => (hallmarklaw01_WordSigns.j1 kj4 t115 t116 x9_4 (t118 != t119))) = some r := H
          have A10 := Aside0.mk A100
          clear A100
          replace H := Option.bind_eq_some_iff.mp H
          obtain ⟨t119, A110, H⟩ := H
          replace H : (hallmarklaw01_WordSigns.j1 kj4 t115 t116 x9_4 (t118 != t119)) = some r := H
          have A11 := Aside0.mk A110
          clear A110
          have H' := Aside0.mk H
          clear H
          go_wp2_with (first | ((with_reducible refine gate_callee (f := 15) rfl ?_); refine goesL_ (some 24) rfl rfl Try.func15 (by kernel_rfl) rfl #[.int .i64 a0] rfl (by (try simp only [List.map_toArray, List.map_cons, List.map_nil]); first | done | rfl | (simp only [List.length_drop, List.length_take]; rfl)) ?_; (with_reducible refine (word_Can.calls a0 t117 _ A8.out).mono ?_); rintro e w' ⟨rfl, ⟨nd, rfl⟩⟩; refine ⟨_, rfl, ?_⟩) | (go_at_call 16; (with_reducible refine (word_Tells.calls a0 t118 _ A10.out).mono ?_); rintro e w' ⟨rfl, ⟨nd, rfl⟩⟩) | (go_at_call 17; (with_reducible refine (hallmarkref01_Tells.calls kj4 a0 t119 _ A11.out).mono ?_); rintro e w' ⟨rfl, ⟨nd, rfl⟩⟩))
          go_meet
          case rel => exact ⟨_, ((t118 != t119)), (by first | rfl | (simp; done) | (simp [*]; done)), H', ⟨by have := HJ4.out; first | omega | exact Nat.le_refl _⟩, by repeat (first | exact Drawn0.refl _ | apply Drawn0.step)⟩
      case rest =>
        clear HC7
        try clear c1
        try clear p2
        try clear c4
        try clear c6
        try clear c6b0
        try clear c9
        try clear c9b0
        try clear c9b1
        try clear c9b2
        try clear c10
        try clear p2
        obtain ⟨kq, x33_6, rfl, HA, HJ6, ⟨mc6, rfl⟩⟩ := hcut
        cases kq with
        | zero => exact absurd HA.out (by simp [hallmarklaw01_WordSigns.j1])
        | succ kj6 =>
          have H := HA.out
          clear HA
          simp only [hallmarklaw01_WordSigns.j1] at H
          by_cases c12 : x33_6 = true
          · subst c12
            have H1 : (some false) = some r := by rw [if_pos rfl] at H; exact H
            clear H
            have H := H1
            clear H1
            obtain rfl := Option.some.inj H
            go_wp2
            go_ret
            exact ⟨by first | rfl | (simp; done) | (simp [*]; done), by repeat (first | exact Drawn0.refl _ | apply Drawn0.step)⟩
          · replace c12 := Bool.eq_false_iff.mpr c12
            subst c12
            have H1 : (if x9_4 = true then ((word_Can.f 13).bind fun t120 => (if t120 = true then ((word_Tells.f 10).bind fun t121 => (some (t121 == 1))) else (some false))) else (if t115 = 0 then (if t116 = true then (some false) else ((word_Can.f 13).bind fun t122 => (if t122 = true then ((word_Tells.f 10).bind fun t123 => (some (t123 == 1))) else (some false)))) else (some false))) = some r := by rw [if_neg (show ¬ (false = true) by decide)] at H; exact H
            clear H
            have H := H1
            clear H1
            by_cases c13 : x9_4 = true
            · subst c13
              have H1 : ((word_Can.f 13).bind fun t120 => (if t120 = true then ((word_Tells.f 10).bind fun t121 => (some (t121 == 1))) else (some false))) = some r := by rw [if_pos rfl] at H; exact H
              clear H
              have H := H1
              clear H1
              replace H := Option.bind_eq_some_iff.mp H
              obtain ⟨t120, A140, H⟩ := H
              replace H : (if t120 = true then ((word_Tells.f 10).bind fun t121 => (some (t121 == 1))) else (some false)) = some r := H
              have A14 := Aside0.mk A140
              clear A140
              by_cases c15 : t120 = true
              · subst c15
                have H1 : ((word_Tells.f 10).bind fun t121 => (some (t121 == 1))) = some r := by rw [if_pos rfl] at H; exact H
                clear H
                have H := H1
                clear H1
                replace H := Option.bind_eq_some_iff.mp H
                obtain ⟨t121, A160, H⟩ := H
                replace H : (some (t121 == 1)) = some r := H
                have A16 := Aside0.mk A160
                clear A160
                obtain rfl := Option.some.inj H
                go_wp2_with (first | (go_at_call 15; (with_reducible refine (word_Can.calls 13 true _ A14.out).mono ?_); rintro e w' ⟨rfl, ⟨nd, rfl⟩⟩) | (go_at_call 16; (with_reducible refine (word_Tells.calls 10 t121 _ A16.out).mono ?_); rintro e w' ⟨rfl, ⟨nd, rfl⟩⟩))
                go_ret
                exact ⟨by first | rfl | (simp; done) | (simp [*]; done), by repeat (first | exact Drawn0.refl _ | apply Drawn0.step)⟩
              · replace c15 := Bool.eq_false_iff.mpr c15
                subst c15
                have H1 : (some false) = some r := by rw [if_neg (show ¬ (false = true) by decide)] at H; exact H
                clear H
                have H := H1
                clear H1
                obtain rfl := Option.some.inj H
                go_wp2_with (first | (go_at_call 15; (with_reducible refine (word_Can.calls 13 false _ A14.out).mono ?_); rintro e w' ⟨rfl, ⟨nd, rfl⟩⟩))
                go_ret
                exact ⟨by first | rfl | (simp; done) | (simp [*]; done), by repeat (first | exact Drawn0.refl _ | apply Drawn0.step)⟩
            · replace c13 := Bool.eq_false_iff.mpr c13
              subst c13
              have H1 : (if t115 = 0 then (if t116 = true then (some false) else ((word_Can.f 13).bind fun t122 => (if t122 = true then ((word_Tells.f 10).bind fun t123 => (some (t123 == 1))) else (some false)))) else (some false)) = some r := by rw [if_neg (show ¬ (false = true) by decide)] at H; exact H
              clear H
              have H := H1
              clear H1
              by_cases c17 : t115 = 0
              · rw [if_pos c17] at H
                have c17b0 : (t115 == 0) = true := beq_iff_eq.mpr c17
                have c17b1 : (t115 != 0) = false := bne_eq_false_iff_eq.mpr c17
                clear c17
                by_cases c18 : t116 = true
                · subst c18
                  have H1 : (some false) = some r := by rw [if_pos rfl] at H; exact H
                  clear H
                  have H := H1
                  clear H1
                  obtain rfl := Option.some.inj H
                  go_wp2
                  go_ret
                  exact ⟨by first | rfl | (simp; done) | (simp [*]; done), by repeat (first | exact Drawn0.refl _ | apply Drawn0.step)⟩
                · replace c18 := Bool.eq_false_iff.mpr c18
                  subst c18
                  have H1 : ((word_Can.f 13).bind fun t122 => (if t122 = true then ((word_Tells.f 10).bind fun t123 => (some (t123 == 1))) else (some false))) = some r := by rw [if_neg (show ¬ (false = true) by decide)] at H; exact H
                  clear H
                  have H := H1
                  clear H1
                  replace H := Option.bind_eq_some_iff.mp H
                  obtain ⟨t122, A190, H⟩ := H
                  replace H : (if t122 = true then ((word_Tells.f 10).bind fun t123 => (some (t123 == 1))) else (some false)) = some r := H
                  have A19 := Aside0.mk A190
                  clear A190
                  by_cases c20 : t122 = true
                  · subst c20
                    have H1 : ((word_Tells.f 10).bind fun t123 => (some (t123 == 1))) = some r := by rw [if_pos rfl] at H; exact H
                    clear H
                    have H := H1
                    clear H1
                    replace H := Option.bind_eq_some_iff.mp H
                    obtain ⟨t123, A210, H⟩ := H
                    replace H : (some (t123 == 1)) = some r := H
                    have A21 := Aside0.mk A210
                    clear A210
                    obtain rfl := Option.some.inj H
                    go_wp2_with (first | (go_at_call 15; (with_reducible refine (word_Can.calls 13 true _ A19.out).mono ?_); rintro e w' ⟨rfl, ⟨nd, rfl⟩⟩) | (go_at_call 16; (with_reducible refine (word_Tells.calls 10 t123 _ A21.out).mono ?_); rintro e w' ⟨rfl, ⟨nd, rfl⟩⟩))
                    go_ret
                    exact ⟨by first | rfl | (simp; done) | (simp [*]; done), by repeat (first | exact Drawn0.refl _ | apply Drawn0.step)⟩
                  · replace c20 := Bool.eq_false_iff.mpr c20
                    subst c20
                    have H1 : (some false) = some r := by rw [if_neg (show ¬ (false = true) by decide)] at H; exact H
                    clear H
                    have H := H1
                    clear H1
                    obtain rfl := Option.some.inj H
                    go_wp2_with (first | (go_at_call 15; (with_reducible refine (word_Can.calls 13 false _ A19.out).mono ?_); rintro e w' ⟨rfl, ⟨nd, rfl⟩⟩))
                    go_ret
                    exact ⟨by first | rfl | (simp; done) | (simp [*]; done), by repeat (first | exact Drawn0.refl _ | apply Drawn0.step)⟩
              · rw [if_neg c17] at H
                have c17b0 : (t115 == 0) = false := beq_eq_false_iff_ne.mpr c17
                have c17b1 : (t115 != 0) = true := bne_iff_ne.mpr c17
                obtain rfl := Option.some.inj H
                go_wp2
                go_ret
                exact ⟨by first | rfl | (simp; done) | (simp [*]; done), by repeat (first | exact Drawn0.refl _ | apply Drawn0.step)⟩

/-- THE ONE PURE STATEMENT of hallmarklaw01_WordSigns: yours. -/
def hallmarklaw01_WordSigns.Pure : Prop := ∀ (a0 : Int) (a1 : Int) (a2 : Int), (Lit.int .i64 a0).wf = true → (Lit.int .i64 a1).wf = true → (Lit.int .i64 a2).wf = true → ∃ k, hallmarklaw01_WordSigns.f k a0 a1 a2 = some true
theorem hallmarklaw01_WordSigns.walk (P : hallmarklaw01_WordSigns.Pure) (a0 : Int) (a1 : Int) (a2 : Int) (w : World) (w0 : (Lit.int .i64 a0).wf = true) (w1 : (Lit.int .i64 a1).wf = true) (w2 : (Lit.int .i64 a2).wf = true) :
    Calls Try.prog 10 #[.int .i64 a0, .int .i64 a1, .int .i64 a2] w fun e w' => e = .returned (.bool true) ∧ Below w.heap.size w w' := by
  obtain ⟨k, h⟩ := P a0 a1 a2 w0 w1 w2
  refine (hallmarklaw01_WordSigns.calls k a0 a1 a2 true w h).mono ?_
  rintro e w' ⟨rfl, hd⟩
  exact ⟨rfl, hd.below⟩

end Go.Proofs.Ytddkjckheacecaa.PWordSigns
