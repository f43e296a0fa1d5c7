-- written by wip/print2.py
import Derived.Test.YtddkjckheacecaaPWordBitsx0
import Derived.Test.YtddkjckheacecaaPWordBitsx3
namespace Go.Proofs.Ytddkjckheacecaa.PWordBits
open Go.RowKit Go.Proofs.YtddkjckheacecaaW.PrintWords Go.Proofs.YtddkjckheacecaaW.PrintLast Go.Proofs.YtddkjckheacecaaW.PrintMore
attribute [local go_sem] max2_int min2_int max_two min_two max_three min_three max_four min_four   -- for this text's walks alone
set_option linter.unusedVariables false
set_option linter.unusedSimpArgs false

/-! ### hallmarklaw01_WordBits: function 6 -/
def hallmarklaw01_WordBits.f (k : Nat) (a0 : Int) (a1 : Int) : Option (Bool) := (hallmarklaw01_same.f k 5 a0 a1).bind fun t152 => (if t152 = true then ((hallmarklaw01_same.f k 6 a0 a1).bind fun t153 => (if t153 = true then ((hallmarklaw01_same.f k 7 a0 a1).bind fun t154 => (if t154 = true then ((hallmarklaw01_same.f k 8 a0 a1).bind fun t155 => (if t155 = true then ((hallmarklaw01_same.f k 9 a0 a1).bind fun t156 => (if t156 = true then ((hallmarklaw01_is.f k 8 1 65 2).bind fun t157 => (if t157 = true then ((hallmarklaw01_is.f k 9 (-2) 1 (-1)).bind fun t158 => (some t158)) else (some false))) else (some false))) else (some false))) else (some false))) else (some false))) else (some false))
theorem hallmarklaw01_WordBits.mono : ∀ a0 a1 k, LeO (hallmarklaw01_WordBits.f k a0 a1) (hallmarklaw01_WordBits.f (k + 1) a0 a1) := by
  intro a0 a1 k
  unfold hallmarklaw01_WordBits.f
  repeat' first
      | (with_reducible exact hallmarklaw01_is.mono _ _ _ _ _)
      | (with_reducible exact hallmarklaw01_same.mono _ _ _ _)
      | (with_reducible exact LeO.refl _)
      | (with_reducible exact LeO.none _)
      | (with_reducible refine LeO.ite ?_ ?_)
      | (with_reducible refine LeO.bind ?_ (fun _ => ?_))
      | exact hallmarklaw01_is.mono _ _ _ _ _
      | exact hallmarklaw01_same.mono _ _ _ _
      | exact LeO.none _
      | refine LeO.ite ?_ ?_
      | refine LeO.bind ?_ (fun _ => ?_)
set_option maxHeartbeats 8000000 in
set_option maxRecDepth 100000 in
theorem hallmarklaw01_WordBits.calls (k : Nat) (a0 : Int) (a1 : Int) (r : Bool) (w : World) (h : hallmarklaw01_WordBits.f k a0 a1 = some r) :
    Calls Try.prog 6 #[.int .i64 a0, .int .i64 a1] w fun e w' => e = .returned (.bool r) ∧ Drawn0 w w' := by
  have H : ((hallmarklaw01_same.f k 5 a0 a1).bind fun t152 => (if t152 = true then ((hallmarklaw01_same.f k 6 a0 a1).bind fun t153 => (if t153 = true then ((hallmarklaw01_same.f k 7 a0 a1).bind fun t154 => (if t154 = true then ((hallmarklaw01_same.f k 8 a0 a1).bind fun t155 => (if t155 = true then ((hallmarklaw01_same.f k 9 a0 a1).bind fun t156 => (if t156 = true then ((hallmarklaw01_is.f k 8 1 65 2).bind fun t157 => (if t157 = true then ((hallmarklaw01_is.f k 9 (-2) 1 (-1)).bind fun t158 => (some t158)) else (some false))) else (some false))) else (some false))) else (some false))) else (some false))) else (some false))) = some r := h
  clear h
  replace H := Option.bind_eq_some_iff.mp H
  obtain ⟨t152, A30, H⟩ := H
  replace H : (if t152 = true then ((hallmarklaw01_same.f k 6 a0 a1).bind fun t153 => (if t153 = true then ((hallmarklaw01_same.f k 7 a0 a1).bind fun t154 => (if t154 = true then ((hallmarklaw01_same.f k 8 a0 a1).bind fun t155 => (if t155 = true then ((hallmarklaw01_same.f k 9 a0 a1).bind fun t156 => (if t156 = true then ((hallmarklaw01_is.f k 8 1 65 2).bind fun t157 => (if t157 = true then ((hallmarklaw01_is.f k 9 (-2) 1 (-1)).bind fun t158 => (some t158)) else (some false))) else (some false))) else (some false))) else (some false))) else (some false))) else (some false)) = some r := H
  have A3 := Aside0.mk A30
  clear A30
  by_cases c4 : t152 = true
  · subst c4
    have H1 : ((hallmarklaw01_same.f k 6 a0 a1).bind fun t153 => (if t153 = true then ((hallmarklaw01_same.f k 7 a0 a1).bind fun t154 => (if t154 = true then ((hallmarklaw01_same.f k 8 a0 a1).bind fun t155 => (if t155 = true then ((hallmarklaw01_same.f k 9 a0 a1).bind fun t156 => (if t156 = true then ((hallmarklaw01_is.f k 8 1 65 2).bind fun t157 => (if t157 = true then ((hallmarklaw01_is.f k 9 (-2) 1 (-1)).bind fun t158 => (some t158)) else (some false))) else (some false))) else (some false))) else (some false))) else (some false))) = some r := by rw [if_pos rfl] at H; exact H
    clear H
    have H := H1
    clear H1
    replace H := Option.bind_eq_some_iff.mp H
    obtain ⟨t153, A50, H⟩ := H
    replace H : (if t153 = true then ((hallmarklaw01_same.f k 7 a0 a1).bind fun t154 => (if t154 = true then ((hallmarklaw01_same.f k 8 a0 a1).bind fun t155 => (if t155 = true then ((hallmarklaw01_same.f k 9 a0 a1).bind fun t156 => (if t156 = true then ((hallmarklaw01_is.f k 8 1 65 2).bind fun t157 => (if t157 = true then ((hallmarklaw01_is.f k 9 (-2) 1 (-1)).bind fun t158 => (some t158)) else (some false))) else (some false))) else (some false))) else (some false))) else (some false)) = some r := H
    have A5 := Aside0.mk A50
    clear A50
    by_cases c6 : t153 = true
    · subst c6
      have H1 : ((hallmarklaw01_same.f k 7 a0 a1).bind fun t154 => (if t154 = true then ((hallmarklaw01_same.f k 8 a0 a1).bind fun t155 => (if t155 = true then ((hallmarklaw01_same.f k 9 a0 a1).bind fun t156 => (if t156 = true then ((hallmarklaw01_is.f k 8 1 65 2).bind fun t157 => (if t157 = true then ((hallmarklaw01_is.f k 9 (-2) 1 (-1)).bind fun t158 => (some t158)) else (some false))) else (some false))) else (some false))) else (some false))) = some r := by rw [if_pos rfl] at H; exact H
      clear H
      have H := H1
      clear H1
      replace H := Option.bind_eq_some_iff.mp H
      obtain ⟨t154, A70, H⟩ := H
      replace H : (if t154 = true then ((hallmarklaw01_same.f k 8 a0 a1).bind fun t155 => (if t155 = true then ((hallmarklaw01_same.f k 9 a0 a1).bind fun t156 => (if t156 = true then ((hallmarklaw01_is.f k 8 1 65 2).bind fun t157 => (if t157 = true then ((hallmarklaw01_is.f k 9 (-2) 1 (-1)).bind fun t158 => (some t158)) else (some false))) else (some false))) else (some false))) else (some false)) = some r := H
      have A7 := Aside0.mk A70
      clear A70
      by_cases c8 : t154 = true
      · subst c8
        have H1 : ((hallmarklaw01_same.f k 8 a0 a1).bind fun t155 => (if t155 = true then ((hallmarklaw01_same.f k 9 a0 a1).bind fun t156 => (if t156 = true then ((hallmarklaw01_is.f k 8 1 65 2).bind fun t157 => (if t157 = true then ((hallmarklaw01_is.f k 9 (-2) 1 (-1)).bind fun t158 => (some t158)) else (some false))) else (some false))) else (some false))) = some r := by rw [if_pos rfl] at H; exact H
        clear H
        have H := H1
        clear H1
        replace H := Option.bind_eq_some_iff.mp H
        obtain ⟨t155, A90, H⟩ := H
        replace H : (if t155 = true then ((hallmarklaw01_same.f k 9 a0 a1).bind fun t156 => (if t156 = true then ((hallmarklaw01_is.f k 8 1 65 2).bind fun t157 => (if t157 = true then ((hallmarklaw01_is.f k 9 (-2) 1 (-1)).bind fun t158 => (some t158)) else (some false))) else (some false))) else (some false)) = some r := H
        have A9 := Aside0.mk A90
        clear A90
        by_cases c10 : t155 = true
        · subst c10
          have H1 : ((hallmarklaw01_same.f k 9 a0 a1).bind fun t156 => (if t156 = true then ((hallmarklaw01_is.f k 8 1 65 2).bind fun t157 => (if t157 = true then ((hallmarklaw01_is.f k 9 (-2) 1 (-1)).bind fun t158 => (some t158)) else (some false))) else (some false))) = some r := by rw [if_pos rfl] at H; exact H
          clear H
          have H := H1
          clear H1
          replace H := Option.bind_eq_some_iff.mp H
          obtain ⟨t156, A110, H⟩ := H
          replace H : (if t156 = true then ((hallmarklaw01_is.f k 8 1 65 2).bind fun t157 => (if t157 = true then ((hallmarklaw01_is.f k 9 (-2) 1 (-1)).bind fun t158 => (some t158)) else (some false))) else (some false)) = some r := H
          have A11 := Aside0.mk A110
          clear A110
          by_cases c12 : t156 = true
          · subst c12
            have H1 : ((hallmarklaw01_is.f k 8 1 65 2).bind fun t157 => (if t157 = true then ((hallmarklaw01_is.f k 9 (-2) 1 (-1)).bind fun t158 => (some t158)) else (some false))) = some r := by rw [if_pos rfl] at H; exact H
            clear H
            have H := H1
            clear H1
            replace H := Option.bind_eq_some_iff.mp H
            obtain ⟨t157, A130, H⟩ := H
            replace H : (if t157 = true then ((hallmarklaw01_is.f k 9 (-2) 1 (-1)).bind fun t158 => (some t158)) else (some false)) = some r := H
            have A13 := Aside0.mk A130
            clear A130
            by_cases c14 : t157 = true
            · subst c14
              have H1 : ((hallmarklaw01_is.f k 9 (-2) 1 (-1)).bind fun t158 => (some t158)) = some r := by rw [if_pos rfl] at H; exact H
              clear H
              have H := H1
              clear H1
              replace H := Option.bind_eq_some_iff.mp H
              obtain ⟨t158, A150, H⟩ := H
              replace H : (some t158) = some r := H
              have A15 := Aside0.mk A150
              clear A150
              obtain rfl := Option.some.inj H
              go_enter Try.func6, Try.ntmps6
              go_wp2_with (first | ((with_reducible refine gate_callee (f := 13) rfl ?_); refine goesL_ (some 7) rfl rfl Try.func13 (by kernel_rfl) rfl #[.int .i64 5, .int .i64 a0, .int .i64 a1] rfl (by (try simp only [List.map_toArray, List.map_cons, List.map_nil]); first | done | rfl | (simp only [List.length_drop, List.length_take]; rfl)) ?_; (with_reducible refine (hallmarklaw01_same.calls k 5 a0 a1 true _ A3.out).mono ?_); rintro e w' ⟨rfl, ⟨nd, rfl⟩⟩; refine ⟨_, rfl, ?_⟩) | (go_at_call 13; (with_reducible refine (hallmarklaw01_same.calls k 6 a0 a1 true _ A5.out).mono ?_); rintro e w' ⟨rfl, ⟨nd, rfl⟩⟩) | (go_at_call 13; (with_reducible refine (hallmarklaw01_same.calls k 7 a0 a1 true _ A7.out).mono ?_); rintro e w' ⟨rfl, ⟨nd, rfl⟩⟩) | (go_at_call 13; (with_reducible refine (hallmarklaw01_same.calls k 8 a0 a1 true _ A9.out).mono ?_); rintro e w' ⟨rfl, ⟨nd, rfl⟩⟩) | (go_at_call 13; (with_reducible refine (hallmarklaw01_same.calls k 9 a0 a1 true _ A11.out).mono ?_); rintro e w' ⟨rfl, ⟨nd, rfl⟩⟩) | (go_at_call 14; (with_reducible refine (hallmarklaw01_is.calls k 8 1 65 2 true _ A13.out).mono ?_); rintro e w' ⟨rfl, ⟨nd, rfl⟩⟩) | (go_at_call 14; (with_reducible refine (hallmarklaw01_is.calls k 9 (-2) 1 (-1) t158 _ A15.out).mono ?_); rintro e w' ⟨rfl, ⟨nd, rfl⟩⟩))
              go_ret
              exact ⟨by first | rfl | (simp; done) | (simp [*]; done), by repeat (first | exact Drawn0.refl _ | apply Drawn0.step)⟩
            · replace c14 := Bool.eq_false_iff.mpr c14
              subst c14
              have H1 : (some false) = some r := by rw [if_neg (show ¬ (false = true) by decide)] at H; exact H
              clear H
              have H := H1
              clear H1
              obtain rfl := Option.some.inj H
              go_enter Try.func6, Try.ntmps6
              go_wp2_with (first | ((with_reducible refine gate_callee (f := 13) rfl ?_); refine goesL_ (some 7) rfl rfl Try.func13 (by kernel_rfl) rfl #[.int .i64 5, .int .i64 a0, .int .i64 a1] rfl (by (try simp only [List.map_toArray, List.map_cons, List.map_nil]); first | done | rfl | (simp only [List.length_drop, List.length_take]; rfl)) ?_; (with_reducible refine (hallmarklaw01_same.calls k 5 a0 a1 true _ A3.out).mono ?_); rintro e w' ⟨rfl, ⟨nd, rfl⟩⟩; refine ⟨_, rfl, ?_⟩) | (go_at_call 13; (with_reducible refine (hallmarklaw01_same.calls k 6 a0 a1 true _ A5.out).mono ?_); rintro e w' ⟨rfl, ⟨nd, rfl⟩⟩) | (go_at_call 13; (with_reducible refine (hallmarklaw01_same.calls k 7 a0 a1 true _ A7.out).mono ?_); rintro e w' ⟨rfl, ⟨nd, rfl⟩⟩) | (go_at_call 13; (with_reducible refine (hallmarklaw01_same.calls k 8 a0 a1 true _ A9.out).mono ?_); rintro e w' ⟨rfl, ⟨nd, rfl⟩⟩) | (go_at_call 13; (with_reducible refine (hallmarklaw01_same.calls k 9 a0 a1 true _ A11.out).mono ?_); rintro e w' ⟨rfl, ⟨nd, rfl⟩⟩) | (go_at_call 14; (with_reducible refine (hallmarklaw01_is.calls k 8 1 65 2 false _ A13.out).mono ?_); rintro e w' ⟨rfl, ⟨nd, rfl⟩⟩))
              go_ret
              exact ⟨by first | rfl | (simp; done) | (simp [*]; done), by repeat (first | exact Drawn0.refl _ | apply Drawn0.step)⟩
          · replace c12 := Bool.eq_false_iff.mpr c12
            subst c12
            have H1 : (some false) = some r := by rw [if_neg (show ¬ (false = true) by decide)] at H; exact H
            clear H
            have H := H1
            clear H1
            obtain rfl := Option.some.inj H
            go_enter Try.func6, Try.ntmps6
            go_wp2_with (first | ((with_reducible refine gate_callee (f := 13) rfl ?_); refine goesL_ (some 7) rfl rfl Try.func13 (by kernel_rfl) rfl #[.int .i64 5, .int .i64 a0, .int .i64 a1] rfl (by (try simp only [List.map_toArray, List.map_cons, List.map_nil]); first | done | rfl | (simp only [List.length_drop, List.length_take]; rfl)) ?_; (with_reducible refine (hallmarklaw01_same.calls k 5 a0 a1 true _ A3.out).mono ?_); rintro e w' ⟨rfl, ⟨nd, rfl⟩⟩; refine ⟨_, rfl, ?_⟩) | (go_at_call 13; (with_reducible refine (hallmarklaw01_same.calls k 6 a0 a1 true _ A5.out).mono ?_); rintro e w' ⟨rfl, ⟨nd, rfl⟩⟩) | (go_at_call 13; (with_reducible refine (hallmarklaw01_same.calls k 7 a0 a1 true _ A7.out).mono ?_); rintro e w' ⟨rfl, ⟨nd, rfl⟩⟩) | (go_at_call 13; (with_reducible refine (hallmarklaw01_same.calls k 8 a0 a1 true _ A9.out).mono ?_); rintro e w' ⟨rfl, ⟨nd, rfl⟩⟩) | (go_at_call 13; (with_reducible refine (hallmarklaw01_same.calls k 9 a0 a1 false _ A11.out).mono ?_); rintro e w' ⟨rfl, ⟨nd, rfl⟩⟩))
            go_ret
            exact ⟨by first | rfl | (simp; done) | (simp [*]; done), by repeat (first | exact Drawn0.refl _ | apply Drawn0.step)⟩
        · replace c10 := Bool.eq_false_iff.mpr c10
          subst c10
          have H1 : (some false) = some r := by rw [if_neg (show ¬ (false = true) by decide)] at H; exact H
          clear H
          have H := H1
          clear H1
          obtain rfl := Option.some.inj H
          go_enter Try.func6, Try.ntmps6
          go_wp2_with (first | ((with_reducible refine gate_callee (f := 13) rfl ?_); refine goesL_ (some 7) rfl rfl Try.func13 (by kernel_rfl) rfl #[.int .i64 5, .int .i64 a0, .int .i64 a1] rfl (by (try simp only [List.map_toArray, List.map_cons, List.map_nil]); first | done | rfl | (simp only [List.length_drop, List.length_take]; rfl)) ?_; (with_reducible refine (hallmarklaw01_same.calls k 5 a0 a1 true _ A3.out).mono ?_); rintro e w' ⟨rfl, ⟨nd, rfl⟩⟩; refine ⟨_, rfl, ?_⟩) | (go_at_call 13; (with_reducible refine (hallmarklaw01_same.calls k 6 a0 a1 true _ A5.out).mono ?_); rintro e w' ⟨rfl, ⟨nd, rfl⟩⟩) | (go_at_call 13; (with_reducible refine (hallmarklaw01_same.calls k 7 a0 a1 true _ A7.out).mono ?_); rintro e w' ⟨rfl, ⟨nd, rfl⟩⟩) | (go_at_call 13; (with_reducible refine (hallmarklaw01_same.calls k 8 a0 a1 false _ A9.out).mono ?_); rintro e w' ⟨rfl, ⟨nd, rfl⟩⟩))
          go_ret
          exact ⟨by first | rfl | (simp; done) | (simp [*]; done), by repeat (first | exact Drawn0.refl _ | apply Drawn0.step)⟩
      · replace c8 := Bool.eq_false_iff.mpr c8
        subst c8
        have H1 : (some false) = some r := by rw [if_neg (show ¬ (false = true) by decide)] at H; exact H
        clear H
        have H := H1
        clear H1
        obtain rfl := Option.some.inj H
        go_enter Try.func6, Try.ntmps6
        go_wp2_with (first | ((with_reducible refine gate_callee (f := 13) rfl ?_); refine goesL_ (some 7) rfl rfl Try.func13 (by kernel_rfl) rfl #[.int .i64 5, .int .i64 a0, .int .i64 a1] rfl (by (try simp only [List.map_toArray, List.map_cons, List.map_nil]); first | done | rfl | (simp only [List.length_drop, List.length_take]; rfl)) ?_; (with_reducible refine (hallmarklaw01_same.calls k 5 a0 a1 true _ A3.out).mono ?_); rintro e w' ⟨rfl, ⟨nd, rfl⟩⟩; refine ⟨_, rfl, ?_⟩) | (go_at_call 13; (with_reducible refine (hallmarklaw01_same.calls k 6 a0 a1 true _ A5.out).mono ?_); rintro e w' ⟨rfl, ⟨nd, rfl⟩⟩) | (go_at_call 13; (with_reducible refine (hallmarklaw01_same.calls k 7 a0 a1 false _ A7.out).mono ?_); rintro e w' ⟨rfl, ⟨nd, rfl⟩⟩))
        go_ret
        exact ⟨by first | rfl | (simp; done) | (simp [*]; done), by repeat (first | exact Drawn0.refl _ | apply Drawn0.step)⟩
    · replace c6 := Bool.eq_false_iff.mpr c6
      subst c6
      have H1 : (some false) = some r := by rw [if_neg (show ¬ (false = true) by decide)] at H; exact H
      clear H
      have H := H1
      clear H1
      obtain rfl := Option.some.inj H
      go_enter Try.func6, Try.ntmps6
      go_wp2_with (first | ((with_reducible refine gate_callee (f := 13) rfl ?_); refine goesL_ (some 7) rfl rfl Try.func13 (by kernel_rfl) rfl #[.int .i64 5, .int .i64 a0, .int .i64 a1] rfl (by (try simp only [List.map_toArray, List.map_cons, List.map_nil]); first | done | rfl | (simp only [List.length_drop, List.length_take]; rfl)) ?_; (with_reducible refine (hallmarklaw01_same.calls k 5 a0 a1 true _ A3.out).mono ?_); rintro e w' ⟨rfl, ⟨nd, rfl⟩⟩; refine ⟨_, rfl, ?_⟩) | (go_at_call 13; (with_reducible refine (hallmarklaw01_same.calls k 6 a0 a1 false _ A5.out).mono ?_); rintro e w' ⟨rfl, ⟨nd, rfl⟩⟩))
      go_ret
      exact ⟨by first | rfl | (simp; done) | (simp [*]; done), by repeat (first | exact Drawn0.refl _ | apply Drawn0.step)⟩
  · replace c4 := Bool.eq_false_iff.mpr c4
    subst c4
    have H1 : (some false) = some r := by rw [if_neg (show ¬ (false = true) by decide)] at H; exact H
    clear H
    have H := H1
    clear H1
    obtain rfl := Option.some.inj H
    go_enter Try.func6, Try.ntmps6
    go_wp2_with (first | ((with_reducible refine gate_callee (f := 13) rfl ?_); refine goesL_ (some 7) rfl rfl Try.func13 (by kernel_rfl) rfl #[.int .i64 5, .int .i64 a0, .int .i64 a1] rfl (by (try simp only [List.map_toArray, List.map_cons, List.map_nil]); first | done | rfl | (simp only [List.length_drop, List.length_take]; rfl)) ?_; (with_reducible refine (hallmarklaw01_same.calls k 5 a0 a1 false _ A3.out).mono ?_); rintro e w' ⟨rfl, ⟨nd, rfl⟩⟩; refine ⟨_, rfl, ?_⟩))
    go_ret
    exact ⟨by first | rfl | (simp; done) | (simp [*]; done), by repeat (first | exact Drawn0.refl _ | apply Drawn0.step)⟩

/-- THE ONE PURE STATEMENT of hallmarklaw01_WordBits: yours. -/
def hallmarklaw01_WordBits.Pure : Prop := ∀ (a0 : Int) (a1 : Int), (Lit.int .i64 a0).wf = true → (Lit.int .i64 a1).wf = true → ∃ k, hallmarklaw01_WordBits.f k a0 a1 = some true
theorem hallmarklaw01_WordBits.walk (P : hallmarklaw01_WordBits.Pure) (a0 : Int) (a1 : Int) (w : World) (w0 : (Lit.int .i64 a0).wf = true) (w1 : (Lit.int .i64 a1).wf = true) :
    Calls Try.prog 6 #[.int .i64 a0, .int .i64 a1] w fun e w' => e = .returned (.bool true) ∧ Below w.heap.size w w' := by
  obtain ⟨k, h⟩ := P a0 a1 w0 w1
  refine (hallmarklaw01_WordBits.calls k a0 a1 true w h).mono ?_
  rintro e w' ⟨rfl, hd⟩
  exact ⟨rfl, hd.below⟩

end Go.Proofs.Ytddkjckheacecaa.PWordBits
