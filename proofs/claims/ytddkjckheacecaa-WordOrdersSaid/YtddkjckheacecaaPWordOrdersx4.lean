-- written by wip/print2.py
import Derived.Test.YtddkjckheacecaaPWordOrdersx0
import Derived.Test.YtddkjckheacecaaPWordOrdersx1
import Derived.Test.YtddkjckheacecaaPWordOrdersx3
namespace Go.Proofs.Ytddkjckheacecaa.PWordOrders
open Go.RowKit Go.Proofs.YtddkjckheacecaaW.PrintWords Go.Proofs.YtddkjckheacecaaW.PrintLast Go.Proofs.YtddkjckheacecaaW.PrintMore
attribute [local go_sem] max2_int min2_int max_two min_two max_three min_three max_four min_four   -- for this text's walks alone
set_option linter.unusedVariables false
set_option linter.unusedSimpArgs false

/-! ### hallmarklaw01_WordOrders: function 7 -/
def hallmarklaw01_WordOrders.f (k : Nat) (a0 : Int) (a1 : Int) : Option (Bool) := (word_Arith.f k 10 a0 a1).bind fun bt152 => ((word_Arith.f k 10 a1 a0).bind fun bt154 => ((word_Arith.f k 12 a0 a1).bind fun bt156 => ((hallmarklaw01_same.f k 10 a0 a1).bind fun t158 => (if t158 = true then ((hallmarklaw01_same.f k 11 a0 a1).bind fun t159 => (if t159 = true then ((hallmarklaw01_same.f k 12 a0 a1).bind fun t160 => (if t160 = true then ((hallmarklaw01_same.f k 13 a0 a1).bind fun t161 => (if t161 = true then (if (wrap64 ((wrap64 (bt152.1 + bt154.1)) + bt156.1)) = 1 then ((hallmarklaw01_is.f k 11 a0 a1 (wrap64 (bt152.1 + bt156.1))).bind fun t162 => (if t162 = true then ((hallmarklaw01_is.f k 13 a0 a1 (wrap64 (1 - bt156.1))).bind fun t163 => (some t163)) else (some false))) else (some false)) else (some false))) else (some false))) else (some false))) else (some false)))))
theorem hallmarklaw01_WordOrders.mono : ∀ a0 a1 k, LeO (hallmarklaw01_WordOrders.f k a0 a1) (hallmarklaw01_WordOrders.f (k + 1) a0 a1) := by
  intro a0 a1 k
  unfold hallmarklaw01_WordOrders.f
  repeat' first
      | (with_reducible exact hallmarklaw01_is.mono _ _ _ _ _)
      | (with_reducible exact hallmarklaw01_same.mono _ _ _ _)
      | (with_reducible exact word_Arith.mono _ _ _ _)
      | (with_reducible exact LeO.refl _)
      | (with_reducible exact LeO.none _)
      | (with_reducible refine LeO.ite ?_ ?_)
      | (with_reducible refine LeO.bind ?_ (fun _ => ?_))
      | exact hallmarklaw01_is.mono _ _ _ _ _
      | exact hallmarklaw01_same.mono _ _ _ _
      | exact word_Arith.mono _ _ _ _
      | exact LeO.none _
      | refine LeO.ite ?_ ?_
      | refine LeO.bind ?_ (fun _ => ?_)
set_option maxHeartbeats 8000000 in
set_option maxRecDepth 100000 in
theorem hallmarklaw01_WordOrders.calls (k : Nat) (a0 : Int) (a1 : Int) (r : Bool) (w : World) (h : hallmarklaw01_WordOrders.f k a0 a1 = some r) :
    Calls Try.prog 7 #[.int .i64 a0, .int .i64 a1] w fun e w' => e = .returned (.bool r) ∧ Drawn0 w w' := by
  have H : ((word_Arith.f k 10 a0 a1).bind fun bt152 => ((word_Arith.f k 10 a1 a0).bind fun bt154 => ((word_Arith.f k 12 a0 a1).bind fun bt156 => ((hallmarklaw01_same.f k 10 a0 a1).bind fun t158 => (if t158 = true then ((hallmarklaw01_same.f k 11 a0 a1).bind fun t159 => (if t159 = true then ((hallmarklaw01_same.f k 12 a0 a1).bind fun t160 => (if t160 = true then ((hallmarklaw01_same.f k 13 a0 a1).bind fun t161 => (if t161 = true then (if (wrap64 ((wrap64 (bt152.1 + bt154.1)) + bt156.1)) = 1 then ((hallmarklaw01_is.f k 11 a0 a1 (wrap64 (bt152.1 + bt156.1))).bind fun t162 => (if t162 = true then ((hallmarklaw01_is.f k 13 a0 a1 (wrap64 (1 - bt156.1))).bind fun t163 => (some t163)) else (some false))) else (some false)) else (some false))) else (some false))) else (some false))) else (some false)))))) = some r := h
  clear h
  replace H := Option.bind_eq_some_iff.mp H
  obtain ⟨⟨t152, t153⟩, A30, H⟩ := H
  replace H : ((word_Arith.f k 10 a1 a0).bind fun bt154 => ((word_Arith.f k 12 a0 a1).bind fun bt156 => ((hallmarklaw01_same.f k 10 a0 a1).bind fun t158 => (if t158 = true then ((hallmarklaw01_same.f k 11 a0 a1).bind fun t159 => (if t159 = true then ((hallmarklaw01_same.f k 12 a0 a1).bind fun t160 => (if t160 = true then ((hallmarklaw01_same.f k 13 a0 a1).bind fun t161 => (if t161 = true then (if (wrap64 ((wrap64 (t152 + bt154.1)) + bt156.1)) = 1 then ((hallmarklaw01_is.f k 11 a0 a1 (wrap64 (t152 + bt156.1))).bind fun t162 => (if t162 = true then ((hallmarklaw01_is.f k 13 a0 a1 (wrap64 (1 - bt156.1))).bind fun t163 => (some t163)) else (some false))) else (some false)) else (some false))) else (some false))) else (some false))) else (some false))))) = some r := H
  have A3 := Aside0.mk A30
  clear A30
  replace H := Option.bind_eq_some_iff.mp H
  obtain ⟨⟨t154, t155⟩, A40, H⟩ := H
  replace H : ((word_Arith.f k 12 a0 a1).bind fun bt156 => ((hallmarklaw01_same.f k 10 a0 a1).bind fun t158 => (if t158 = true then ((hallmarklaw01_same.f k 11 a0 a1).bind fun t159 => (if t159 = true then ((hallmarklaw01_same.f k 12 a0 a1).bind fun t160 => (if t160 = true then ((hallmarklaw01_same.f k 13 a0 a1).bind fun t161 => (if t161 = true then (if (wrap64 ((wrap64 (t152 + t154)) + bt156.1)) = 1 then ((hallmarklaw01_is.f k 11 a0 a1 (wrap64 (t152 + bt156.1))).bind fun t162 => (if t162 = true then ((hallmarklaw01_is.f k 13 a0 a1 (wrap64 (1 - bt156.1))).bind fun t163 => (some t163)) else (some false))) else (some false)) else (some false))) else (some false))) else (some false))) else (some false)))) = some r := H
  have A4 := Aside0.mk A40
  clear A40
  replace H := Option.bind_eq_some_iff.mp H
  obtain ⟨⟨t156, t157⟩, A50, H⟩ := H
  replace H : ((hallmarklaw01_same.f k 10 a0 a1).bind fun t158 => (if t158 = true then ((hallmarklaw01_same.f k 11 a0 a1).bind fun t159 => (if t159 = true then ((hallmarklaw01_same.f k 12 a0 a1).bind fun t160 => (if t160 = true then ((hallmarklaw01_same.f k 13 a0 a1).bind fun t161 => (if t161 = true then (if (wrap64 ((wrap64 (t152 + t154)) + t156)) = 1 then ((hallmarklaw01_is.f k 11 a0 a1 (wrap64 (t152 + t156))).bind fun t162 => (if t162 = true then ((hallmarklaw01_is.f k 13 a0 a1 (wrap64 (1 - t156))).bind fun t163 => (some t163)) else (some false))) else (some false)) else (some false))) else (some false))) else (some false))) else (some false))) = some r := H
  have A5 := Aside0.mk A50
  clear A50
  replace H := Option.bind_eq_some_iff.mp H
  obtain ⟨t158, A60, H⟩ := H
  replace H : (if t158 = true then ((hallmarklaw01_same.f k 11 a0 a1).bind fun t159 => (if t159 = true then ((hallmarklaw01_same.f k 12 a0 a1).bind fun t160 => (if t160 = true then ((hallmarklaw01_same.f k 13 a0 a1).bind fun t161 => (if t161 = true then (if (wrap64 ((wrap64 (t152 + t154)) + t156)) = 1 then ((hallmarklaw01_is.f k 11 a0 a1 (wrap64 (t152 + t156))).bind fun t162 => (if t162 = true then ((hallmarklaw01_is.f k 13 a0 a1 (wrap64 (1 - t156))).bind fun t163 => (some t163)) else (some false))) else (some false)) else (some false))) else (some false))) else (some false))) else (some false)) = some r := H
  have A6 := Aside0.mk A60
  clear A60
  by_cases c7 : t158 = true
  · subst c7
    have H1 : ((hallmarklaw01_same.f k 11 a0 a1).bind fun t159 => (if t159 = true then ((hallmarklaw01_same.f k 12 a0 a1).bind fun t160 => (if t160 = true then ((hallmarklaw01_same.f k 13 a0 a1).bind fun t161 => (if t161 = true then (if (wrap64 ((wrap64 (t152 + t154)) + t156)) = 1 then ((hallmarklaw01_is.f k 11 a0 a1 (wrap64 (t152 + t156))).bind fun t162 => (if t162 = true then ((hallmarklaw01_is.f k 13 a0 a1 (wrap64 (1 - t156))).bind fun t163 => (some t163)) else (some false))) else (some false)) else (some false))) else (some false))) else (some false))) = some r := by rw [if_pos rfl] at H; exact H
    clear H
    have H := H1
    clear H1
    replace H := Option.bind_eq_some_iff.mp H
    obtain ⟨t159, A80, H⟩ := H
    replace H : (if t159 = true then ((hallmarklaw01_same.f k 12 a0 a1).bind fun t160 => (if t160 = true then ((hallmarklaw01_same.f k 13 a0 a1).bind fun t161 => (if t161 = true then (if (wrap64 ((wrap64 (t152 + t154)) + t156)) = 1 then ((hallmarklaw01_is.f k 11 a0 a1 (wrap64 (t152 + t156))).bind fun t162 => (if t162 = true then ((hallmarklaw01_is.f k 13 a0 a1 (wrap64 (1 - t156))).bind fun t163 => (some t163)) else (some false))) else (some false)) else (some false))) else (some false))) else (some false)) = some r := H
    have A8 := Aside0.mk A80
    clear A80
    by_cases c9 : t159 = true
    · subst c9
      have H1 : ((hallmarklaw01_same.f k 12 a0 a1).bind fun t160 => (if t160 = true then ((hallmarklaw01_same.f k 13 a0 a1).bind fun t161 => (if t161 = true then (if (wrap64 ((wrap64 (t152 + t154)) + t156)) = 1 then ((hallmarklaw01_is.f k 11 a0 a1 (wrap64 (t152 + t156))).bind fun t162 => (if t162 = true then ((hallmarklaw01_is.f k 13 a0 a1 (wrap64 (1 - t156))).bind fun t163 => (some t163)) else (some false))) else (some false)) else (some false))) else (some false))) = some r := by rw [if_pos rfl] at H; exact H
      clear H
      have H := H1
      clear H1
      replace H := Option.bind_eq_some_iff.mp H
      obtain ⟨t160, A100, H⟩ := H
      replace H : (if t160 = true then ((hallmarklaw01_same.f k 13 a0 a1).bind fun t161 => (if t161 = true then (if (wrap64 ((wrap64 (t152 + t154)) + t156)) = 1 then ((hallmarklaw01_is.f k 11 a0 a1 (wrap64 (t152 + t156))).bind fun t162 => (if t162 = true then ((hallmarklaw01_is.f k 13 a0 a1 (wrap64 (1 - t156))).bind fun t163 => (some t163)) else (some false))) else (some false)) else (some false))) else (some false)) = some r := H
      have A10 := Aside0.mk A100
      clear A100
      by_cases c11 : t160 = true
      · subst c11
        have H1 : ((hallmarklaw01_same.f k 13 a0 a1).bind fun t161 => (if t161 = true then (if (wrap64 ((wrap64 (t152 + t154)) + t156)) = 1 then ((hallmarklaw01_is.f k 11 a0 a1 (wrap64 (t152 + t156))).bind fun t162 => (if t162 = true then ((hallmarklaw01_is.f k 13 a0 a1 (wrap64 (1 - t156))).bind fun t163 => (some t163)) else (some false))) else (some false)) else (some false))) = some r := by rw [if_pos rfl] at H; exact H
        clear H
        have H := H1
        clear H1
        replace H := Option.bind_eq_some_iff.mp H
        obtain ⟨t161, A120, H⟩ := H
        replace H : (if t161 = true then (if (wrap64 ((wrap64 (t152 + t154)) + t156)) = 1 then ((hallmarklaw01_is.f k 11 a0 a1 (wrap64 (t152 + t156))).bind fun t162 => (if t162 = true then ((hallmarklaw01_is.f k 13 a0 a1 (wrap64 (1 - t156))).bind fun t163 => (some t163)) else (some false))) else (some false)) else (some false)) = some r := H
        have A12 := Aside0.mk A120
        clear A120
        by_cases c13 : t161 = true
        · subst c13
          have H1 : (if (wrap64 ((wrap64 (t152 + t154)) + t156)) = 1 then ((hallmarklaw01_is.f k 11 a0 a1 (wrap64 (t152 + t156))).bind fun t162 => (if t162 = true then ((hallmarklaw01_is.f k 13 a0 a1 (wrap64 (1 - t156))).bind fun t163 => (some t163)) else (some false))) else (some false)) = some r := by rw [if_pos rfl] at H; exact H
          clear H
          have H := H1
          clear H1
          by_cases c14 : (wrap64 ((wrap64 (t152 + t154)) + t156)) = 1
          · rw [if_pos c14] at H
            have c14b0 : ((wrap64 ((wrap64 (t152 + t154)) + t156)) == 1) = true := beq_iff_eq.mpr c14
            have c14b1 : ((wrap64 ((wrap64 (t152 + t154)) + t156)) != 1) = false := bne_eq_false_iff_eq.mpr c14
            clear c14
            replace H := Option.bind_eq_some_iff.mp H
            obtain ⟨t162, A150, H⟩ := H
            replace H : (if t162 = true then ((hallmarklaw01_is.f k 13 a0 a1 (wrap64 (1 - t156))).bind fun t163 => (some t163)) else (some false)) = some r := H
            have A15 := Aside0.mk A150
            clear A150
            by_cases c16 : t162 = true
            · subst c16
              have H1 : ((hallmarklaw01_is.f k 13 a0 a1 (wrap64 (1 - t156))).bind fun t163 => (some t163)) = some r := by rw [if_pos rfl] at H; exact H
              clear H
              have H := H1
              clear H1
              replace H := Option.bind_eq_some_iff.mp H
              obtain ⟨t163, A170, H⟩ := H
              replace H : (some t163) = some r := H
              have A17 := Aside0.mk A170
              clear A170
              obtain rfl := Option.some.inj H
              go_enter Try.func7, Try.ntmps7
              go_wp2_with (first | ((with_reducible refine gate_callee (f := 12) rfl ?_); refine goesL_ (some 14) rfl rfl Try.func12 (by kernel_rfl) rfl #[.int .i64 10, .int .i64 a0, .int .i64 a1] rfl (by (try simp only [List.map_toArray, List.map_cons, List.map_nil]); first | done | rfl | (simp only [List.length_drop, List.length_take]; rfl)) ?_; (with_reducible refine (word_Arith.calls k 10 a0 a1 t152 t153 _ A3.out).mono ?_); rintro e w' ⟨rfl, ⟨nd, rfl⟩⟩; refine ⟨_, rfl, ?_⟩) | ((with_reducible refine gate_callee (f := 12) rfl ?_); refine goesL_ (some 20) rfl rfl Try.func12 (by kernel_rfl) rfl #[.int .i64 10, .int .i64 a1, .int .i64 a0] rfl (by (try simp only [List.map_toArray, List.map_cons, List.map_nil]); first | done | rfl | (simp only [List.length_drop, List.length_take]; rfl)) ?_; (with_reducible refine (word_Arith.calls k 10 a1 a0 t154 t155 _ A4.out).mono ?_); rintro e w' ⟨rfl, ⟨nd, rfl⟩⟩; refine ⟨_, rfl, ?_⟩) | ((with_reducible refine gate_callee (f := 12) rfl ?_); refine goesL_ (some 26) rfl rfl Try.func12 (by kernel_rfl) rfl #[.int .i64 12, .int .i64 a0, .int .i64 a1] rfl (by (try simp only [List.map_toArray, List.map_cons, List.map_nil]); first | done | rfl | (simp only [List.length_drop, List.length_take]; rfl)) ?_; (with_reducible refine (word_Arith.calls k 12 a0 a1 t156 t157 _ A5.out).mono ?_); rintro e w' ⟨rfl, ⟨nd, rfl⟩⟩; refine ⟨_, rfl, ?_⟩) | ((with_reducible refine gate_callee (f := 13) rfl ?_); refine goesL_ (some 31) rfl rfl Try.func13 (by kernel_rfl) rfl #[.int .i64 10, .int .i64 a0, .int .i64 a1] rfl (by (try simp only [List.map_toArray, List.map_cons, List.map_nil]); first | done | rfl | (simp only [List.length_drop, List.length_take]; rfl)) ?_; (with_reducible refine (hallmarklaw01_same.calls k 10 a0 a1 true _ A6.out).mono ?_); rintro e w' ⟨rfl, ⟨nd, rfl⟩⟩; refine ⟨_, rfl, ?_⟩) | (go_at_call 13; (with_reducible refine (hallmarklaw01_same.calls k 11 a0 a1 true _ A8.out).mono ?_); rintro e w' ⟨rfl, ⟨nd, rfl⟩⟩) | (go_at_call 13; (with_reducible refine (hallmarklaw01_same.calls k 12 a0 a1 true _ A10.out).mono ?_); rintro e w' ⟨rfl, ⟨nd, rfl⟩⟩) | (go_at_call 13; (with_reducible refine (hallmarklaw01_same.calls k 13 a0 a1 true _ A12.out).mono ?_); rintro e w' ⟨rfl, ⟨nd, rfl⟩⟩) | (go_at_call 14; (with_reducible refine (hallmarklaw01_is.calls k 11 a0 a1 (wrap64 (t152 + t156)) true _ A15.out).mono ?_); rintro e w' ⟨rfl, ⟨nd, rfl⟩⟩) | (go_at_call 14; (with_reducible refine (hallmarklaw01_is.calls k 13 a0 a1 (wrap64 (1 - t156)) t163 _ A17.out).mono ?_); rintro e w' ⟨rfl, ⟨nd, rfl⟩⟩))
              go_ret
              exact ⟨by first | rfl | (simp; done) | (simp [*]; done), by repeat (first | exact Drawn0.refl _ | apply Drawn0.step)⟩
            · replace c16 := Bool.eq_false_iff.mpr c16
              subst c16
              have H1 : (some false) = some r := by rw [if_neg (show ¬ (false = true) by decide)] at H; exact H
              clear H
              have H := H1
              clear H1
              obtain rfl := Option.some.inj H
              go_enter Try.func7, Try.ntmps7
              go_wp2_with (first | ((with_reducible refine gate_callee (f := 12) rfl ?_); refine goesL_ (some 14) rfl rfl Try.func12 (by kernel_rfl) rfl #[.int .i64 10, .int .i64 a0, .int .i64 a1] rfl (by (try simp only [List.map_toArray, List.map_cons, List.map_nil]); first | done | rfl | (simp only [List.length_drop, List.length_take]; rfl)) ?_; (with_reducible refine (word_Arith.calls k 10 a0 a1 t152 t153 _ A3.out).mono ?_); rintro e w' ⟨rfl, ⟨nd, rfl⟩⟩; refine ⟨_, rfl, ?_⟩) | ((with_reducible refine gate_callee (f := 12) rfl ?_); refine goesL_ (some 20) rfl rfl Try.func12 (by kernel_rfl) rfl #[.int .i64 10, .int .i64 a1, .int .i64 a0] rfl (by (try simp only [List.map_toArray, List.map_cons, List.map_nil]); first | done | rfl | (simp only [List.length_drop, List.length_take]; rfl)) ?_; (with_reducible refine (word_Arith.calls k 10 a1 a0 t154 t155 _ A4.out).mono ?_); rintro e w' ⟨rfl, ⟨nd, rfl⟩⟩; refine ⟨_, rfl, ?_⟩) | ((with_reducible refine gate_callee (f := 12) rfl ?_); refine goesL_ (some 26) rfl rfl Try.func12 (by kernel_rfl) rfl #[.int .i64 12, .int .i64 a0, .int .i64 a1] rfl (by (try simp only [List.map_toArray, List.map_cons, List.map_nil]); first | done | rfl | (simp only [List.length_drop, List.length_take]; rfl)) ?_; (with_reducible refine (word_Arith.calls k 12 a0 a1 t156 t157 _ A5.out).mono ?_); rintro e w' ⟨rfl, ⟨nd, rfl⟩⟩; refine ⟨_, rfl, ?_⟩) | ((with_reducible refine gate_callee (f := 13) rfl ?_); refine goesL_ (some 31) rfl rfl Try.func13 (by kernel_rfl) rfl #[.int .i64 10, .int .i64 a0, .int .i64 a1] rfl (by (try simp only [List.map_toArray, List.map_cons, List.map_nil]); first | done | rfl | (simp only [List.length_drop, List.length_take]; rfl)) ?_; (with_reducible refine (hallmarklaw01_same.calls k 10 a0 a1 true _ A6.out).mono ?_); rintro e w' ⟨rfl, ⟨nd, rfl⟩⟩; refine ⟨_, rfl, ?_⟩) | (go_at_call 13; (with_reducible refine (hallmarklaw01_same.calls k 11 a0 a1 true _ A8.out).mono ?_); rintro e w' ⟨rfl, ⟨nd, rfl⟩⟩) | (go_at_call 13; (with_reducible refine (hallmarklaw01_same.calls k 12 a0 a1 true _ A10.out).mono ?_); rintro e w' ⟨rfl, ⟨nd, rfl⟩⟩) | (go_at_call 13; (with_reducible refine (hallmarklaw01_same.calls k 13 a0 a1 true _ A12.out).mono ?_); rintro e w' ⟨rfl, ⟨nd, rfl⟩⟩) | (go_at_call 14; (with_reducible refine (hallmarklaw01_is.calls k 11 a0 a1 (wrap64 (t152 + t156)) false _ A15.out).mono ?_); rintro e w' ⟨rfl, ⟨nd, rfl⟩⟩))
              go_ret
              exact ⟨by first | rfl | (simp; done) | (simp [*]; done), by repeat (first | exact Drawn0.refl _ | apply Drawn0.step)⟩
          · rw [if_neg c14] at H
            have c14b0 : ((wrap64 ((wrap64 (t152 + t154)) + t156)) == 1) = false := beq_eq_false_iff_ne.mpr c14
            have c14b1 : ((wrap64 ((wrap64 (t152 + t154)) + t156)) != 1) = true := bne_iff_ne.mpr c14
            obtain rfl := Option.some.inj H
            go_enter Try.func7, Try.ntmps7
            go_wp2_with (first | ((with_reducible refine gate_callee (f := 12) rfl ?_); refine goesL_ (some 14) rfl rfl Try.func12 (by kernel_rfl) rfl #[.int .i64 10, .int .i64 a0, .int .i64 a1] rfl (by (try simp only [List.map_toArray, List.map_cons, List.map_nil]); first | done | rfl | (simp only [List.length_drop, List.length_take]; rfl)) ?_; (with_reducible refine (word_Arith.calls k 10 a0 a1 t152 t153 _ A3.out).mono ?_); rintro e w' ⟨rfl, ⟨nd, rfl⟩⟩; refine ⟨_, rfl, ?_⟩) | ((with_reducible refine gate_callee (f := 12) rfl ?_); refine goesL_ (some 20) rfl rfl Try.func12 (by kernel_rfl) rfl #[.int .i64 10, .int .i64 a1, .int .i64 a0] rfl (by (try simp only [List.map_toArray, List.map_cons, List.map_nil]); first | done | rfl | (simp only [List.length_drop, List.length_take]; rfl)) ?_; (with_reducible refine (word_Arith.calls k 10 a1 a0 t154 t155 _ A4.out).mono ?_); rintro e w' ⟨rfl, ⟨nd, rfl⟩⟩; refine ⟨_, rfl, ?_⟩) | ((with_reducible refine gate_callee (f := 12) rfl ?_); refine goesL_ (some 26) rfl rfl Try.func12 (by kernel_rfl) rfl #[.int .i64 12, .int .i64 a0, .int .i64 a1] rfl (by (try simp only [List.map_toArray, List.map_cons, List.map_nil]); first | done | rfl | (simp only [List.length_drop, List.length_take]; rfl)) ?_; (with_reducible refine (word_Arith.calls k 12 a0 a1 t156 t157 _ A5.out).mono ?_); rintro e w' ⟨rfl, ⟨nd, rfl⟩⟩; refine ⟨_, rfl, ?_⟩) | ((with_reducible refine gate_callee (f := 13) rfl ?_); refine goesL_ (some 31) rfl rfl Try.func13 (by kernel_rfl) rfl #[.int .i64 10, .int .i64 a0, .int .i64 a1] rfl (by (try simp only [List.map_toArray, List.map_cons, List.map_nil]); first | done | rfl | (simp only [List.length_drop, List.length_take]; rfl)) ?_; (with_reducible refine (hallmarklaw01_same.calls k 10 a0 a1 true _ A6.out).mono ?_); rintro e w' ⟨rfl, ⟨nd, rfl⟩⟩; refine ⟨_, rfl, ?_⟩) | (go_at_call 13; (with_reducible refine (hallmarklaw01_same.calls k 11 a0 a1 true _ A8.out).mono ?_); rintro e w' ⟨rfl, ⟨nd, rfl⟩⟩) | (go_at_call 13; (with_reducible refine (hallmarklaw01_same.calls k 12 a0 a1 true _ A10.out).mono ?_); rintro e w' ⟨rfl, ⟨nd, rfl⟩⟩) | (go_at_call 13; (with_reducible refine (hallmarklaw01_same.calls k 13 a0 a1 true _ A12.out).mono ?_); rintro e w' ⟨rfl, ⟨nd, rfl⟩⟩))
            go_ret
            exact ⟨by first | rfl | (simp; done) | (simp [*]; done), by repeat (first | exact Drawn0.refl _ | apply Drawn0.step)⟩
        · replace c13 := Bool.eq_false_iff.mpr c13
          subst c13
          have H1 : (some false) = some r := by rw [if_neg (show ¬ (false = true) by decide)] at H; exact H
          clear H
          have H := H1
          clear H1
          obtain rfl := Option.some.inj H
          go_enter Try.func7, Try.ntmps7
          go_wp2_with (first | ((with_reducible refine gate_callee (f := 12) rfl ?_); refine goesL_ (some 14) rfl rfl Try.func12 (by kernel_rfl) rfl #[.int .i64 10, .int .i64 a0, .int .i64 a1] rfl (by (try simp only [List.map_toArray, List.map_cons, List.map_nil]); first | done | rfl | (simp only [List.length_drop, List.length_take]; rfl)) ?_; (with_reducible refine (word_Arith.calls k 10 a0 a1 t152 t153 _ A3.out).mono ?_); rintro e w' ⟨rfl, ⟨nd, rfl⟩⟩; refine ⟨_, rfl, ?_⟩) | ((with_reducible refine gate_callee (f := 12) rfl ?_); refine goesL_ (some 20) rfl rfl Try.func12 (by kernel_rfl) rfl #[.int .i64 10, .int .i64 a1, .int .i64 a0] rfl (by (try simp only [List.map_toArray, List.map_cons, List.map_nil]); first | done | rfl | (simp only [List.length_drop, List.length_take]; rfl)) ?_; (with_reducible refine (word_Arith.calls k 10 a1 a0 t154 t155 _ A4.out).mono ?_); rintro e w' ⟨rfl, ⟨nd, rfl⟩⟩; refine ⟨_, rfl, ?_⟩) | ((with_reducible refine gate_callee (f := 12) rfl ?_); refine goesL_ (some 26) rfl rfl Try.func12 (by kernel_rfl) rfl #[.int .i64 12, .int .i64 a0, .int .i64 a1] rfl (by (try simp only [List.map_toArray, List.map_cons, List.map_nil]); first | done | rfl | (simp only [List.length_drop, List.length_take]; rfl)) ?_; (with_reducible refine (word_Arith.calls k 12 a0 a1 t156 t157 _ A5.out).mono ?_); rintro e w' ⟨rfl, ⟨nd, rfl⟩⟩; refine ⟨_, rfl, ?_⟩) | ((with_reducible refine gate_callee (f := 13) rfl ?_); refine goesL_ (some 31) rfl rfl Try.func13 (by kernel_rfl) rfl #[.int .i64 10, .int .i64 a0, .int .i64 a1] rfl (by (try simp only [List.map_toArray, List.map_cons, List.map_nil]); first | done | rfl | (simp only [List.length_drop, List.length_take]; rfl)) ?_; (with_reducible refine (hallmarklaw01_same.calls k 10 a0 a1 true _ A6.out).mono ?_); rintro e w' ⟨rfl, ⟨nd, rfl⟩⟩; refine ⟨_, rfl, ?_⟩) | (go_at_call 13; (with_reducible refine (hallmarklaw01_same.calls k 11 a0 a1 true _ A8.out).mono ?_); rintro e w' ⟨rfl, ⟨nd, rfl⟩⟩) | (go_at_call 13; (with_reducible refine (hallmarklaw01_same.calls k 12 a0 a1 true _ A10.out).mono ?_); rintro e w' ⟨rfl, ⟨nd, rfl⟩⟩) | (go_at_call 13; (with_reducible refine (hallmarklaw01_same.calls k 13 a0 a1 false _ A12.out).mono ?_); rintro e w' ⟨rfl, ⟨nd, rfl⟩⟩))
          go_ret
          exact ⟨by first | rfl | (simp; done) | (simp [*]; done), by repeat (first | exact Drawn0.refl _ | apply Drawn0.step)⟩
      · replace c11 := Bool.eq_false_iff.mpr c11
        subst c11
        have H1 : (some false) = some r := by rw [if_neg (show ¬ (false = true) by decide)] at H; exact H
        clear H
        have H := H1
        clear H1
        obtain rfl := Option.some.inj H
        go_enter Try.func7, Try.ntmps7
        go_wp2_with (first | ((with_reducible refine gate_callee (f := 12) rfl ?_); refine goesL_ (some 14) rfl rfl Try.func12 (by kernel_rfl) rfl #[.int .i64 10, .int .i64 a0, .int .i64 a1] rfl (by (try simp only [List.map_toArray, List.map_cons, List.map_nil]); first | done | rfl | (simp only [List.length_drop, List.length_take]; rfl)) ?_; (with_reducible refine (word_Arith.calls k 10 a0 a1 t152 t153 _ A3.out).mono ?_); rintro e w' ⟨rfl, ⟨nd, rfl⟩⟩; refine ⟨_, rfl, ?_⟩) | ((with_reducible refine gate_callee (f := 12) rfl ?_); refine goesL_ (some 20) rfl rfl Try.func12 (by kernel_rfl) rfl #[.int .i64 10, .int .i64 a1, .int .i64 a0] rfl (by (try simp only [List.map_toArray, List.map_cons, List.map_nil]); first | done | rfl | (simp only [List.length_drop, List.length_take]; rfl)) ?_; (with_reducible refine (word_Arith.calls k 10 a1 a0 t154 t155 _ A4.out).mono ?_); rintro e w' ⟨rfl, ⟨nd, rfl⟩⟩; refine ⟨_, rfl, ?_⟩) | ((with_reducible refine gate_callee (f := 12) rfl ?_); refine goesL_ (some 26) rfl rfl Try.func12 (by kernel_rfl) rfl #[.int .i64 12, .int .i64 a0, .int .i64 a1] rfl (by (try simp only [List.map_toArray, List.map_cons, List.map_nil]); first | done | rfl | (simp only [List.length_drop, List.length_take]; rfl)) ?_; (with_reducible refine (word_Arith.calls k 12 a0 a1 t156 t157 _ A5.out).mono ?_); rintro e w' ⟨rfl, ⟨nd, rfl⟩⟩; refine ⟨_, rfl, ?_⟩) | ((with_reducible refine gate_callee (f := 13) rfl ?_); refine goesL_ (some 31) rfl rfl Try.func13 (by kernel_rfl) rfl #[.int .i64 10, .int .i64 a0, .int .i64 a1] rfl (by (try simp only [List.map_toArray, List.map_cons, List.map_nil]); first | done | rfl | (simp only [List.length_drop, List.length_take]; rfl)) ?_; (with_reducible refine (hallmarklaw01_same.calls k 10 a0 a1 true _ A6.out).mono ?_); rintro e w' ⟨rfl, ⟨nd, rfl⟩⟩; refine ⟨_, rfl, ?_⟩) | (go_at_call 13; (with_reducible refine (hallmarklaw01_same.calls k 11 a0 a1 true _ A8.out).mono ?_); rintro e w' ⟨rfl, ⟨nd, rfl⟩⟩) | (go_at_call 13; (with_reducible refine (hallmarklaw01_same.calls k 12 a0 a1 false _ A10.out).mono ?_); rintro e w' ⟨rfl, ⟨nd, rfl⟩⟩))
        go_ret
        exact ⟨by first | rfl | (simp; done) | (simp [*]; done), by repeat (first | exact Drawn0.refl _ | apply Drawn0.step)⟩
    · replace c9 := Bool.eq_false_iff.mpr c9
      subst c9
      have H1 : (some false) = some r := by rw [if_neg (show ¬ (false = true) by decide)] at H; exact H
      clear H
      have H := H1
      clear H1
      obtain rfl := Option.some.inj H
      go_enter Try.func7, Try.ntmps7
      go_wp2_with (first | ((with_reducible refine gate_callee (f := 12) rfl ?_); refine goesL_ (some 14) rfl rfl Try.func12 (by kernel_rfl) rfl #[.int .i64 10, .int .i64 a0, .int .i64 a1] rfl (by (try simp only [List.map_toArray, List.map_cons, List.map_nil]); first | done | rfl | (simp only [List.length_drop, List.length_take]; rfl)) ?_; (with_reducible refine (word_Arith.calls k 10 a0 a1 t152 t153 _ A3.out).mono ?_); rintro e w' ⟨rfl, ⟨nd, rfl⟩⟩; refine ⟨_, rfl, ?_⟩) | ((with_reducible refine gate_callee (f := 12) rfl ?_); refine goesL_ (some 20) rfl rfl Try.func12 (by kernel_rfl) rfl #[.int .i64 10, .int .i64 a1, .int .i64 a0] rfl (by (try simp only [List.map_toArray, List.map_cons, List.map_nil]); first | done | rfl | (simp only [List.length_drop, List.length_take]; rfl)) ?_; (with_reducible refine (word_Arith.calls k 10 a1 a0 t154 t155 _ A4.out).mono ?_); rintro e w' ⟨rfl, ⟨nd, rfl⟩⟩; refine ⟨_, rfl, ?_⟩) | ((with_reducible refine gate_callee (f := 12) rfl ?_); refine goesL_ (some 26) rfl rfl Try.func12 (by kernel_rfl) rfl #[.int .i64 12, .int .i64 a0, .int .i64 a1] rfl (by (try simp only [List.map_toArray, List.map_cons, List.map_nil]); first | done | rfl | (simp only [List.length_drop, List.length_take]; rfl)) ?_; (with_reducible refine (word_Arith.calls k 12 a0 a1 t156 t157 _ A5.out).mono ?_); rintro e w' ⟨rfl, ⟨nd, rfl⟩⟩; refine ⟨_, rfl, ?_⟩) | ((with_reducible refine gate_callee (f := 13) rfl ?_); refine goesL_ (some 31) rfl rfl Try.func13 (by kernel_rfl) rfl #[.int .i64 10, .int .i64 a0, .int .i64 a1] rfl (by (try simp only [List.map_toArray, List.map_cons, List.map_nil]); first | done | rfl | (simp only [List.length_drop, List.length_take]; rfl)) ?_; (with_reducible refine (hallmarklaw01_same.calls k 10 a0 a1 true _ A6.out).mono ?_); rintro e w' ⟨rfl, ⟨nd, rfl⟩⟩; refine ⟨_, rfl, ?_⟩) | (go_at_call 13; (with_reducible refine (hallmarklaw01_same.calls k 11 a0 a1 false _ A8.out).mono ?_); rintro e w' ⟨rfl, ⟨nd, rfl⟩⟩))
      go_ret
      exact ⟨by first | rfl | (simp; done) | (simp [*]; done), by repeat (first | exact Drawn0.refl _ | apply Drawn0.step)⟩
  · replace c7 := Bool.eq_false_iff.mpr c7
    subst c7
    have H1 : (some false) = some r := by rw [if_neg (show ¬ (false = true) by decide)] at H; exact H
    clear H
    have H := H1
    clear H1
    obtain rfl := Option.some.inj H
    go_enter Try.func7, Try.ntmps7
    go_wp2_with (first | ((with_reducible refine gate_callee (f := 12) rfl ?_); refine goesL_ (some 14) rfl rfl Try.func12 (by kernel_rfl) rfl #[.int .i64 10, .int .i64 a0, .int .i64 a1] rfl (by (try simp only [List.map_toArray, List.map_cons, List.map_nil]); first | done | rfl | (simp only [List.length_drop, List.length_take]; rfl)) ?_; (with_reducible refine (word_Arith.calls k 10 a0 a1 t152 t153 _ A3.out).mono ?_); rintro e w' ⟨rfl, ⟨nd, rfl⟩⟩; refine ⟨_, rfl, ?_⟩) | ((with_reducible refine gate_callee (f := 12) rfl ?_); refine goesL_ (some 20) rfl rfl Try.func12 (by kernel_rfl) rfl #[.int .i64 10, .int .i64 a1, .int .i64 a0] rfl (by (try simp only [List.map_toArray, List.map_cons, List.map_nil]); first | done | rfl | (simp only [List.length_drop, List.length_take]; rfl)) ?_; (with_reducible refine (word_Arith.calls k 10 a1 a0 t154 t155 _ A4.out).mono ?_); rintro e w' ⟨rfl, ⟨nd, rfl⟩⟩; refine ⟨_, rfl, ?_⟩) | ((with_reducible refine gate_callee (f := 12) rfl ?_); refine goesL_ (some 26) rfl rfl Try.func12 (by kernel_rfl) rfl #[.int .i64 12, .int .i64 a0, .int .i64 a1] rfl (by (try simp only [List.map_toArray, List.map_cons, List.map_nil]); first | done | rfl | (simp only [List.length_drop, List.length_take]; rfl)) ?_; (with_reducible refine (word_Arith.calls k 12 a0 a1 t156 t157 _ A5.out).mono ?_); rintro e w' ⟨rfl, ⟨nd, rfl⟩⟩; refine ⟨_, rfl, ?_⟩) | ((with_reducible refine gate_callee (f := 13) rfl ?_); refine goesL_ (some 31) rfl rfl Try.func13 (by kernel_rfl) rfl #[.int .i64 10, .int .i64 a0, .int .i64 a1] rfl (by (try simp only [List.map_toArray, List.map_cons, List.map_nil]); first | done | rfl | (simp only [List.length_drop, List.length_take]; rfl)) ?_; (with_reducible refine (hallmarklaw01_same.calls k 10 a0 a1 false _ A6.out).mono ?_); rintro e w' ⟨rfl, ⟨nd, rfl⟩⟩; refine ⟨_, rfl, ?_⟩))
    go_ret
    exact ⟨by first | rfl | (simp; done) | (simp [*]; done), by repeat (first | exact Drawn0.refl _ | apply Drawn0.step)⟩

/-- THE ONE PURE STATEMENT of hallmarklaw01_WordOrders: yours. -/
def hallmarklaw01_WordOrders.Pure : Prop := ∀ (a0 : Int) (a1 : Int), (Lit.int .i64 a0).wf = true → (Lit.int .i64 a1).wf = true → ∃ k, hallmarklaw01_WordOrders.f k a0 a1 = some true
theorem hallmarklaw01_WordOrders.walk (P : hallmarklaw01_WordOrders.Pure) (a0 : Int) (a1 : Int) (w : World) (w0 : (Lit.int .i64 a0).wf = true) (w1 : (Lit.int .i64 a1).wf = true) :
    Calls Try.prog 7 #[.int .i64 a0, .int .i64 a1] w fun e w' => e = .returned (.bool true) ∧ Below w.heap.size w w' := by
  obtain ⟨k, h⟩ := P a0 a1 w0 w1
  refine (hallmarklaw01_WordOrders.calls k a0 a1 true w h).mono ?_
  rintro e w' ⟨rfl, hd⟩
  exact ⟨rfl, hd.below⟩

end Go.Proofs.Ytddkjckheacecaa.PWordOrders
