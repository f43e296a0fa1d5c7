-- written by wip/print2.py
import Derived.Test.YtddkjckheacecaaPWordChainsx0
import Derived.Test.YtddkjckheacecaaPWordChainsx1
import Derived.Test.YtddkjckheacecaaPWordChainsx2
import Derived.Test.YtddkjckheacecaaPWordChainsx3
namespace Go.Proofs.Ytddkjckheacecaa.PWordChains
open Go.RowKit Go.Proofs.YtddkjckheacecaaW.PrintWords Go.Proofs.YtddkjckheacecaaW.PrintLast Go.Proofs.YtddkjckheacecaaW.PrintMore
attribute [local go_sem] max2_int min2_int max_two min_two max_three min_three max_four min_four   -- for this text's walks alone
set_option linter.unusedVariables false
set_option linter.unusedSimpArgs false

/-! ### hallmarkref01_Arith: function 19 -/
mutual
def hallmarkref01_Arith.j0 : Nat → Int → Int → Int → Int → Int → Int → Bool → Option (Int × Bool)
  | 0, _, _, _, _, _, _, _ => none
  | k + 1, x0, x1, x2, x8, x9, x16, x36 => if x36 = true then (if x2 = 0 then (some (0, false)) else ((hallmarkref01_Size.f k x1).bind fun t140 => ((hallmarkref01_Size.f k x2).bind fun t141 => ((hallmarkref01_divide.f k t140 t141).bind fun bt142 => (if ((decide (x1 < 0)) != (decide (x2 < 0))) = true then ((hallmarkref01_minus.f k bt142.1).bind fun t144 => (hallmarkref01_Arith.j1 k x0 x1 t144 bt142.2)) else (hallmarkref01_Arith.j1 k x0 x1 bt142.1 bt142.2)))))) else (if x16 = 5 then (hallmarkref01_Arith.j2 k x0 x1 x2 x8 x9 x16 (x16 == 5)) else (if x16 = 6 then (hallmarkref01_Arith.j2 k x0 x1 x2 x8 x9 x16 (x16 == 6)) else (hallmarkref01_Arith.j2 k x0 x1 x2 x8 x9 x16 (x16 == 7))))
def hallmarkref01_Arith.j1 : Nat → Int → Int → Int → Int → Option (Int × Bool)
  | 0, _, _, _, _ => none
  | k + 1, x0, x1, x10, x11 => if x1 < 0 then ((hallmarkref01_minus.f k x11).bind fun t145 => (if x0 = 3 then (some (wrap64 (x10), true)) else (some (wrap64 (t145), true)))) else (if x0 = 3 then (some (wrap64 (x10), true)) else (some (wrap64 (x11), true)))
def hallmarkref01_Arith.j2 : Nat → Int → Int → Int → Int → Int → Int → Bool → Option (Int × Bool)
  | 0, _, _, _, _, _, _, _ => none
  | k + 1, x0, x1, x2, x8, x9, x16, x66 => if x66 = true then ((hallmarkref01_bits.f k x0 x8 x9).bind fun t146 => (some (wrap64 (t146), true))) else (if x16 = 8 then (hallmarkref01_Arith.j3 k x0 x1 x2 x8 x9 x16 (x16 == 8)) else (hallmarkref01_Arith.j3 k x0 x1 x2 x8 x9 x16 (x16 == 9)))
def hallmarkref01_Arith.j3 : Nat → Int → Int → Int → Int → Int → Int → Bool → Option (Int × Bool)
  | 0, _, _, _, _, _, _, _ => none
  | k + 1, x0, x1, x2, x8, x9, x16, x75 => if x75 = true then ((hallmarkref01_shift.f k x1 (wrap64 (Int.tmod x9 64)) (x0 == 8)).bind fun t147 => (some (t147, true))) else (if x16 = 10 then ((hallmarkref01_less.f k x1 x2).bind fun t148 => ((hallmarkref01_truth.f t148).bind fun t149 => (some (t149, true)))) else (if x16 = 11 then ((hallmarkref01_less.f k x2 x1).bind fun t150 => ((hallmarkref01_truth.f (!t150)).bind fun t151 => (some (t151, true)))) else (if x16 = 12 then ((hallmarkref01_truth.f (x8 == x9)).bind fun t152 => (some (t152, true))) else (if x16 = 13 then ((hallmarkref01_truth.f (x8 != x9)).bind fun t153 => (some (t153, true))) else (some (0, false))))))
end
def hallmarkref01_Arith.f (k : Nat) (a0 : Int) (a1 : Int) (a2 : Int) : Option (Int × Bool) := if a0 = 0 then ((hallmarkref01_plus.f k (IntKind.u64.wrap (a1)) (IntKind.u64.wrap (a2))).bind fun t136 => (some (wrap64 (t136), true))) else (if a0 = 1 then ((hallmarkref01_minus.f k (IntKind.u64.wrap (a2))).bind fun t137 => ((hallmarkref01_plus.f k (IntKind.u64.wrap (a1)) t137).bind fun t138 => (some (wrap64 (t138), true)))) else (if a0 = 2 then ((hallmarkref01_times.f k (IntKind.u64.wrap (a1)) (IntKind.u64.wrap (a2))).bind fun t139 => (some (wrap64 (t139), true))) else (if a0 = 3 then (hallmarkref01_Arith.j0 k a0 a1 a2 (IntKind.u64.wrap (a1)) (IntKind.u64.wrap (a2)) a0 (a0 == 3)) else (hallmarkref01_Arith.j0 k a0 a1 a2 (IntKind.u64.wrap (a1)) (IntKind.u64.wrap (a2)) a0 (a0 == 4)))))
theorem hallmarkref01_Arith.mono_l : ∀ k, (∀ y0 y1 y2 y3 y4 y5 y6, LeO (hallmarkref01_Arith.j0 k y0 y1 y2 y3 y4 y5 y6) (hallmarkref01_Arith.j0 (k + 1) y0 y1 y2 y3 y4 y5 y6)) ∧ (∀ y0 y1 y2 y3, LeO (hallmarkref01_Arith.j1 k y0 y1 y2 y3) (hallmarkref01_Arith.j1 (k + 1) y0 y1 y2 y3)) ∧ (∀ y0 y1 y2 y3 y4 y5 y6, LeO (hallmarkref01_Arith.j2 k y0 y1 y2 y3 y4 y5 y6) (hallmarkref01_Arith.j2 (k + 1) y0 y1 y2 y3 y4 y5 y6)) ∧ (∀ y0 y1 y2 y3 y4 y5 y6, LeO (hallmarkref01_Arith.j3 k y0 y1 y2 y3 y4 y5 y6) (hallmarkref01_Arith.j3 (k + 1) y0 y1 y2 y3 y4 y5 y6))
  | 0 => ⟨fun _ _ _ _ _ _ _ r h => by simp [hallmarkref01_Arith.j0] at h, fun _ _ _ _ r h => by simp [hallmarkref01_Arith.j1] at h, fun _ _ _ _ _ _ _ r h => by simp [hallmarkref01_Arith.j2] at h, fun _ _ _ _ _ _ _ r h => by simp [hallmarkref01_Arith.j3] at h⟩
  | k + 1 => by
    obtain ⟨ih0, ih1, ih2, ih3⟩ := hallmarkref01_Arith.mono_l k
    refine ⟨?_, ?_, ?_, ?_⟩
    · intro y0 y1 y2 y3 y4 y5 y6
      unfold hallmarkref01_Arith.j0
      repeat' first
      | (with_reducible exact ih0 _ _ _ _ _ _ _)
      | (with_reducible exact ih1 _ _ _ _)
      | (with_reducible exact ih2 _ _ _ _ _ _ _)
      | (with_reducible exact ih3 _ _ _ _ _ _ _)
      | (with_reducible exact hallmarkref01_Size.mono _ _)
      | (with_reducible exact hallmarkref01_bits.mono _ _ _ _)
      | (with_reducible exact hallmarkref01_divide.mono _ _ _)
      | (with_reducible exact hallmarkref01_less.mono _ _ _)
      | (with_reducible exact hallmarkref01_minus.mono _ _)
      | (with_reducible exact hallmarkref01_plus.mono _ _ _)
      | (with_reducible exact hallmarkref01_shift.mono _ _ _ _)
      | (with_reducible exact hallmarkref01_times.mono _ _ _)
      | (with_reducible exact LeO.refl _)
      | (with_reducible exact LeO.none _)
      | (with_reducible refine LeO.ite ?_ ?_)
      | (with_reducible refine LeO.bind ?_ (fun _ => ?_))
      | exact ih0 _ _ _ _ _ _ _
      | exact ih1 _ _ _ _
      | exact ih2 _ _ _ _ _ _ _
      | exact ih3 _ _ _ _ _ _ _
      | exact hallmarkref01_Size.mono _ _
      | exact hallmarkref01_bits.mono _ _ _ _
      | exact hallmarkref01_divide.mono _ _ _
      | exact hallmarkref01_less.mono _ _ _
      | exact hallmarkref01_minus.mono _ _
      | exact hallmarkref01_plus.mono _ _ _
      | exact hallmarkref01_shift.mono _ _ _ _
      | exact hallmarkref01_times.mono _ _ _
      | exact LeO.none _
      | refine LeO.ite ?_ ?_
      | refine LeO.bind ?_ (fun _ => ?_)
    · intro y0 y1 y2 y3
      unfold hallmarkref01_Arith.j1
      repeat' first
      | (with_reducible exact ih0 _ _ _ _ _ _ _)
      | (with_reducible exact ih1 _ _ _ _)
      | (with_reducible exact ih2 _ _ _ _ _ _ _)
      | (with_reducible exact ih3 _ _ _ _ _ _ _)
      | (with_reducible exact hallmarkref01_Size.mono _ _)
      | (with_reducible exact hallmarkref01_bits.mono _ _ _ _)
      | (with_reducible exact hallmarkref01_divide.mono _ _ _)
      | (with_reducible exact hallmarkref01_less.mono _ _ _)
      | (with_reducible exact hallmarkref01_minus.mono _ _)
      | (with_reducible exact hallmarkref01_plus.mono _ _ _)
      | (with_reducible exact hallmarkref01_shift.mono _ _ _ _)
      | (with_reducible exact hallmarkref01_times.mono _ _ _)
      | (with_reducible exact LeO.refl _)
      | (with_reducible exact LeO.none _)
      | (with_reducible refine LeO.ite ?_ ?_)
      | (with_reducible refine LeO.bind ?_ (fun _ => ?_))
      | exact ih0 _ _ _ _ _ _ _
      | exact ih1 _ _ _ _
      | exact ih2 _ _ _ _ _ _ _
      | exact ih3 _ _ _ _ _ _ _
      | exact hallmarkref01_Size.mono _ _
      | exact hallmarkref01_bits.mono _ _ _ _
      | exact hallmarkref01_divide.mono _ _ _
      | exact hallmarkref01_less.mono _ _ _
      | exact hallmarkref01_minus.mono _ _
      | exact hallmarkref01_plus.mono _ _ _
      | exact hallmarkref01_shift.mono _ _ _ _
      | exact hallmarkref01_times.mono _ _ _
      | exact LeO.none _
      | refine LeO.ite ?_ ?_
      | refine LeO.bind ?_ (fun _ => ?_)
    · intro y0 y1 y2 y3 y4 y5 y6
      unfold hallmarkref01_Arith.j2
      repeat' first
      | (with_reducible exact ih0 _ _ _ _ _ _ _)
      | (with_reducible exact ih1 _ _ _ _)
      | (with_reducible exact ih2 _ _ _ _ _ _ _)
      | (with_reducible exact ih3 _ _ _ _ _ _ _)
      | (with_reducible exact hallmarkref01_Size.mono _ _)
      | (with_reducible exact hallmarkref01_bits.mono _ _ _ _)
      | (with_reducible exact hallmarkref01_divide.mono _ _ _)
      | (with_reducible exact hallmarkref01_less.mono _ _ _)
      | (with_reducible exact hallmarkref01_minus.mono _ _)
      | (with_reducible exact hallmarkref01_plus.mono _ _ _)
      | (with_reducible exact hallmarkref01_shift.mono _ _ _ _)
      | (with_reducible exact hallmarkref01_times.mono _ _ _)
      | (with_reducible exact LeO.refl _)
      | (with_reducible exact LeO.none _)
      | (with_reducible refine LeO.ite ?_ ?_)
      | (with_reducible refine LeO.bind ?_ (fun _ => ?_))
      | exact ih0 _ _ _ _ _ _ _
      | exact ih1 _ _ _ _
      | exact ih2 _ _ _ _ _ _ _
      | exact ih3 _ _ _ _ _ _ _
      | exact hallmarkref01_Size.mono _ _
      | exact hallmarkref01_bits.mono _ _ _ _
      | exact hallmarkref01_divide.mono _ _ _
      | exact hallmarkref01_less.mono _ _ _
      | exact hallmarkref01_minus.mono _ _
      | exact hallmarkref01_plus.mono _ _ _
      | exact hallmarkref01_shift.mono _ _ _ _
      | exact hallmarkref01_times.mono _ _ _
      | exact LeO.none _
      | refine LeO.ite ?_ ?_
      | refine LeO.bind ?_ (fun _ => ?_)
    · intro y0 y1 y2 y3 y4 y5 y6
      unfold hallmarkref01_Arith.j3
      repeat' first
      | (with_reducible exact ih0 _ _ _ _ _ _ _)
      | (with_reducible exact ih1 _ _ _ _)
      | (with_reducible exact ih2 _ _ _ _ _ _ _)
      | (with_reducible exact ih3 _ _ _ _ _ _ _)
      | (with_reducible exact hallmarkref01_Size.mono _ _)
      | (with_reducible exact hallmarkref01_bits.mono _ _ _ _)
      | (with_reducible exact hallmarkref01_divide.mono _ _ _)
      | (with_reducible exact hallmarkref01_less.mono _ _ _)
      | (with_reducible exact hallmarkref01_minus.mono _ _)
      | (with_reducible exact hallmarkref01_plus.mono _ _ _)
      | (with_reducible exact hallmarkref01_shift.mono _ _ _ _)
      | (with_reducible exact hallmarkref01_times.mono _ _ _)
      | (with_reducible exact LeO.refl _)
      | (with_reducible exact LeO.none _)
      | (with_reducible refine LeO.ite ?_ ?_)
      | (with_reducible refine LeO.bind ?_ (fun _ => ?_))
      | exact ih0 _ _ _ _ _ _ _
      | exact ih1 _ _ _ _
      | exact ih2 _ _ _ _ _ _ _
      | exact ih3 _ _ _ _ _ _ _
      | exact hallmarkref01_Size.mono _ _
      | exact hallmarkref01_bits.mono _ _ _ _
      | exact hallmarkref01_divide.mono _ _ _
      | exact hallmarkref01_less.mono _ _ _
      | exact hallmarkref01_minus.mono _ _
      | exact hallmarkref01_plus.mono _ _ _
      | exact hallmarkref01_shift.mono _ _ _ _
      | exact hallmarkref01_times.mono _ _ _
      | exact LeO.none _
      | refine LeO.ite ?_ ?_
      | refine LeO.bind ?_ (fun _ => ?_)
theorem hallmarkref01_Arith.mono : ∀ a0 a1 a2 k, LeO (hallmarkref01_Arith.f k a0 a1 a2) (hallmarkref01_Arith.f (k + 1) a0 a1 a2) := by
  intro a0 a1 a2 k
  obtain ⟨ih0, ih1, ih2, ih3⟩ := hallmarkref01_Arith.mono_l k
  unfold hallmarkref01_Arith.f
  repeat' first
      | (with_reducible exact ih0 _ _ _ _ _ _ _)
      | (with_reducible exact ih1 _ _ _ _)
      | (with_reducible exact ih2 _ _ _ _ _ _ _)
      | (with_reducible exact ih3 _ _ _ _ _ _ _)
      | (with_reducible exact hallmarkref01_Size.mono _ _)
      | (with_reducible exact hallmarkref01_bits.mono _ _ _ _)
      | (with_reducible exact hallmarkref01_divide.mono _ _ _)
      | (with_reducible exact hallmarkref01_less.mono _ _ _)
      | (with_reducible exact hallmarkref01_minus.mono _ _)
      | (with_reducible exact hallmarkref01_plus.mono _ _ _)
      | (with_reducible exact hallmarkref01_shift.mono _ _ _ _)
      | (with_reducible exact hallmarkref01_times.mono _ _ _)
      | (with_reducible exact LeO.refl _)
      | (with_reducible exact LeO.none _)
      | (with_reducible refine LeO.ite ?_ ?_)
      | (with_reducible refine LeO.bind ?_ (fun _ => ?_))
      | exact ih0 _ _ _ _ _ _ _
      | exact ih1 _ _ _ _
      | exact ih2 _ _ _ _ _ _ _
      | exact ih3 _ _ _ _ _ _ _
      | exact hallmarkref01_Size.mono _ _
      | exact hallmarkref01_bits.mono _ _ _ _
      | exact hallmarkref01_divide.mono _ _ _
      | exact hallmarkref01_less.mono _ _ _
      | exact hallmarkref01_minus.mono _ _
      | exact hallmarkref01_plus.mono _ _ _
      | exact hallmarkref01_shift.mono _ _ _ _
      | exact hallmarkref01_times.mono _ _ _
      | exact LeO.none _
      | refine LeO.ite ?_ ?_
      | refine LeO.bind ?_ (fun _ => ?_)
set_option maxHeartbeats 8000000 in
set_option maxRecDepth 100000 in
theorem hallmarkref01_Arith.calls (k : Nat) (a0 : Int) (a1 : Int) (a2 : Int) (r1 : Int) (r2 : Bool) (w : World) (h : hallmarkref01_Arith.f k a0 a1 a2 = some (r1, r2)) :
    Calls Try.prog 19 #[.int .i64 a0, .int .i64 a1, .int .i64 a2] w fun e w' => e = .returned (.tuple #[.int .i64 r1, .bool r2]) ∧ Drawn0 w w' := by
  have H : (if a0 = 0 then ((hallmarkref01_plus.f k (IntKind.u64.wrap (a1)) (IntKind.u64.wrap (a2))).bind fun t136 => (some (wrap64 (t136), true))) else (if a0 = 1 then ((hallmarkref01_minus.f k (IntKind.u64.wrap (a2))).bind fun t137 => ((hallmarkref01_plus.f k (IntKind.u64.wrap (a1)) t137).bind fun t138 => (some (wrap64 (t138), true)))) else (if a0 = 2 then ((hallmarkref01_times.f k (IntKind.u64.wrap (a1)) (IntKind.u64.wrap (a2))).bind fun t139 => (some (wrap64 (t139), true))) else (if a0 = 3 then (hallmarkref01_Arith.j0 k a0 a1 a2 (IntKind.u64.wrap (a1)) (IntKind.u64.wrap (a2)) a0 (a0 == 3)) else (hallmarkref01_Arith.j0 k a0 a1 a2 (IntKind.u64.wrap (a1)) (IntKind.u64.wrap (a2)) a0 (a0 == 4)))))) = some (r1, r2) := h
  clear h
  by_cases c4 : a0 = 0
  · rw [if_pos c4] at H
    have c4b0 : (a0 == 0) = true := beq_iff_eq.mpr c4
    have c4b1 : (a0 != 0) = false := bne_eq_false_iff_eq.mpr c4
    clear c4
    replace H := Option.bind_eq_some_iff.mp H
    obtain ⟨t136, A50, H⟩ := H
    replace H : (some (wrap64 (t136), true)) = some (r1, r2) := H
    have A5 := Aside0.mk A50
    clear A50
    simp only [Option.some.injEq, Prod.mk.injEq] at H
    obtain ⟨rfl, rfl⟩ := H
    go_enter Try.func19, Try.ntmps19
    go_wp2_with (first | ((with_reducible refine gate_callee (f := 22) rfl ?_); refine goesL_ (some 21) rfl rfl Try.func22 (by kernel_rfl) rfl #[.int .u64 (IntKind.u64.wrap (a1)), .int .u64 (IntKind.u64.wrap (a2))] rfl (by (try simp only [List.map_toArray, List.map_cons, List.map_nil]); first | done | rfl | (simp only [List.length_drop, List.length_take]; rfl)) ?_; (with_reducible refine (hallmarkref01_plus.calls k (IntKind.u64.wrap (a1)) (IntKind.u64.wrap (a2)) t136 _ A5.out).mono ?_); rintro e w' ⟨rfl, ⟨nd, rfl⟩⟩; refine ⟨_, rfl, ?_⟩))
    go_ret2
    exact ⟨by first | rfl | (simp; done) | (simp [*]; done), by repeat (first | exact Drawn0.refl _ | apply Drawn0.step)⟩
  · rw [if_neg c4] at H
    have c4b0 : (a0 == 0) = false := beq_eq_false_iff_ne.mpr c4
    have c4b1 : (a0 != 0) = true := bne_iff_ne.mpr c4
    by_cases c6 : a0 = 1
    · rw [if_pos c6] at H
      have c6b0 : (a0 == 1) = true := beq_iff_eq.mpr c6
      have c6b1 : (a0 != 1) = false := bne_eq_false_iff_eq.mpr c6
      clear c6
      replace H := Option.bind_eq_some_iff.mp H
      obtain ⟨t137, A70, H⟩ := H
      replace H : ((hallmarkref01_plus.f k (IntKind.u64.wrap (a1)) t137).bind fun t138 => (some (wrap64 (t138), true))) = some (r1, r2) := H
      have A7 := Aside0.mk A70
      clear A70
      replace H := Option.bind_eq_some_iff.mp H
      obtain ⟨t138, A80, H⟩ := H
      replace H : (some (wrap64 (t138), true)) = some (r1, r2) := H
      have A8 := Aside0.mk A80
      clear A80
      simp only [Option.some.injEq, Prod.mk.injEq] at H
      obtain ⟨rfl, rfl⟩ := H
      go_enter Try.func19, Try.ntmps19
      go_wp2_with (first | ((with_reducible refine gate_callee (f := 23) rfl ?_); refine goesL_ (some 27) rfl rfl Try.func23 (by kernel_rfl) rfl #[.int .u64 (IntKind.u64.wrap (a2))] rfl (by (try simp only [List.map_toArray, List.map_cons, List.map_nil]); first | done | rfl | (simp only [List.length_drop, List.length_take]; rfl)) ?_; (with_reducible refine (hallmarkref01_minus.calls k (IntKind.u64.wrap (a2)) t137 _ A7.out).mono ?_); rintro e w' ⟨rfl, ⟨nd, rfl⟩⟩; refine ⟨_, rfl, ?_⟩) | ((with_reducible refine gate_callee (f := 22) rfl ?_); refine goesL_ (some 28) rfl rfl Try.func22 (by kernel_rfl) rfl #[.int .u64 (IntKind.u64.wrap (a1)), .int .u64 t137] rfl (by (try simp only [List.map_toArray, List.map_cons, List.map_nil]); first | done | rfl | (simp only [List.length_drop, List.length_take]; rfl)) ?_; (with_reducible refine (hallmarkref01_plus.calls k (IntKind.u64.wrap (a1)) t137 t138 _ A8.out).mono ?_); rintro e w' ⟨rfl, ⟨nd, rfl⟩⟩; refine ⟨_, rfl, ?_⟩))
      go_ret2
      exact ⟨by first | rfl | (simp; done) | (simp [*]; done), by repeat (first | exact Drawn0.refl _ | apply Drawn0.step)⟩
    · rw [if_neg c6] at H
      have c6b0 : (a0 == 1) = false := beq_eq_false_iff_ne.mpr c6
      have c6b1 : (a0 != 1) = true := bne_iff_ne.mpr c6
      by_cases c9 : a0 = 2
      · rw [if_pos c9] at H
        have c9b0 : (a0 == 2) = true := beq_iff_eq.mpr c9
        have c9b1 : (a0 != 2) = false := bne_eq_false_iff_eq.mpr c9
        clear c9
        replace H := Option.bind_eq_some_iff.mp H
        obtain ⟨t139, A100, H⟩ := H
        replace H : (some (wrap64 (t139), true)) = some (r1, r2) := H
        have A10 := Aside0.mk A100
        clear A100
        simp only [Option.some.injEq, Prod.mk.injEq] at H
        obtain ⟨rfl, rfl⟩ := H
        go_enter Try.func19, Try.ntmps19
        go_wp2_with (first | ((with_reducible refine gate_callee (f := 24) rfl ?_); refine goesL_ (some 34) rfl rfl Try.func24 (by kernel_rfl) rfl #[.int .u64 (IntKind.u64.wrap (a1)), .int .u64 (IntKind.u64.wrap (a2))] rfl (by (try simp only [List.map_toArray, List.map_cons, List.map_nil]); first | done | rfl | (simp only [List.length_drop, List.length_take]; rfl)) ?_; (with_reducible refine (hallmarkref01_times.calls k (IntKind.u64.wrap (a1)) (IntKind.u64.wrap (a2)) t139 _ A10.out).mono ?_); rintro e w' ⟨rfl, ⟨nd, rfl⟩⟩; refine ⟨_, rfl, ?_⟩))
        go_ret2
        exact ⟨by first | rfl | (simp; done) | (simp [*]; done), by repeat (first | exact Drawn0.refl _ | apply Drawn0.step)⟩
      · rw [if_neg c9] at H
        have c9b0 : (a0 == 2) = false := beq_eq_false_iff_ne.mpr c9
        have c9b1 : (a0 != 2) = true := bne_iff_ne.mpr c9
        have HC11 := Aside0.mk H
        clear H
        go_enter Try.func19, Try.ntmps19
        go_upto_if 36 with (fail)
        go_cut [36] (fun v36 wc => ∃ (kq : Nat) (x36_10 : Bool), v36 = .bool x36_10 ∧ Aside0 (hallmarkref01_Arith.j0 kq a0 a1 a2 (IntKind.u64.wrap (a1)) (IntKind.u64.wrap (a2)) a0 x36_10 = some (r1, r2)) ∧ Aside0 (kq ≤ k) ∧ Drawn0 w wc)
        case first =>
          have H := HC11.out
          clear HC11
          by_cases c12 : a0 = 3
          · rw [if_pos c12] at H
            have c12b0 : (a0 == 3) = true := beq_iff_eq.mpr c12
            have c12b1 : (a0 != 3) = false := bne_eq_false_iff_eq.mpr c12
            clear c12
            (first | rw [c12b0] | (simp only [i64_w, i32_w]; rw [c12b0]) | rw [c12b1] | skip)
            have H' := Aside0.mk H
            clear H
            go_wp2
            go_meet
            case rel => exact ⟨_, ((a0 == 3)), (by first | rfl | (simp; done) | (simp [*]; done)), H', ⟨by first | omega | exact Nat.le_refl _⟩, by repeat (first | exact Drawn0.refl _ | apply Drawn0.step)⟩
          · rw [if_neg c12] at H
            have c12b0 : (a0 == 3) = false := beq_eq_false_iff_ne.mpr c12
            have c12b1 : (a0 != 3) = true := bne_iff_ne.mpr c12
            (first | rw [c12b0] | (simp only [i64_w, i32_w]; rw [c12b0]) | rw [c12b1] | skip)
            have H' := Aside0.mk H
            clear H
            go_wp2
            go_meet
            case rel => exact ⟨_, ((a0 == 4)), (by first | rfl | (simp; done) | (simp [*]; done)), H', ⟨by first | omega | exact Nat.le_refl _⟩, by repeat (first | exact Drawn0.refl _ | apply Drawn0.step)⟩
        case rest =>
          clear HC11
          try clear c1
          try clear c2
          try clear p2
          try clear c4
          try clear c4b0
          try clear c4b1
          try clear c6
          try clear c6b0
          try clear c6b1
          try clear p6
          try clear c9
          try clear c9b0
          try clear c9b1
          try clear c12
          try clear c12b0
          try clear c12b1
          obtain ⟨kq, x36_10, rfl, HA, HJ10, ⟨mc10, rfl⟩⟩ := hcut
          cases kq with
          | zero => exact absurd HA.out (by simp [hallmarkref01_Arith.j0])
          | succ kj10 =>
            have H := HA.out
            clear HA
            simp only [hallmarkref01_Arith.j0] at H
            by_cases c13 : x36_10 = true
            · subst c13
              have H1 : (if a2 = 0 then (some (0, false)) else ((hallmarkref01_Size.f kj10 a1).bind fun t140 => ((hallmarkref01_Size.f kj10 a2).bind fun t141 => ((hallmarkref01_divide.f kj10 t140 t141).bind fun bt142 => (if ((decide (a1 < 0)) != (decide (a2 < 0))) = true then ((hallmarkref01_minus.f kj10 bt142.1).bind fun t144 => (hallmarkref01_Arith.j1 kj10 a0 a1 t144 bt142.2)) else (hallmarkref01_Arith.j1 kj10 a0 a1 bt142.1 bt142.2)))))) = some (r1, r2) := by rw [if_pos rfl] at H; exact H
              clear H
              have H := H1
              clear H1
              by_cases c14 : a2 = 0
              · rw [if_pos c14] at H
                have c14b0 : (a2 == 0) = true := beq_iff_eq.mpr c14
                have c14b1 : (a2 != 0) = false := bne_eq_false_iff_eq.mpr c14
                clear c14
                simp only [Option.some.injEq, Prod.mk.injEq] at H
                obtain ⟨rfl, rfl⟩ := H
                go_wp2
                go_ret2
                exact ⟨by first | rfl | (simp; done) | (simp [*]; done), by repeat (first | exact Drawn0.refl _ | apply Drawn0.step)⟩
              · rw [if_neg c14] at H
                have c14b0 : (a2 == 0) = false := beq_eq_false_iff_ne.mpr c14
                have c14b1 : (a2 != 0) = true := bne_iff_ne.mpr c14
                replace H := Option.bind_eq_some_iff.mp H
                obtain ⟨t140, A150, H⟩ := H
                replace H : ((hallmarkref01_Size.f kj10 a2).bind fun t141 => ((hallmarkref01_divide.f kj10 t140 t141).bind fun bt142 => (if ((decide (a1 < 0)) != (decide (a2 < 0))) = true then ((hallmarkref01_minus.f kj10 bt142.1).bind fun t144 => (hallmarkref01_Arith.j1 kj10 a0 a1 t144 bt142.2)) else (hallmarkref01_Arith.j1 kj10 a0 a1 bt142.1 bt142.2)))) = some (r1, r2) := H
                have A15 := Aside0.mk A150
                clear A150
                replace H := Option.bind_eq_some_iff.mp H
                obtain ⟨t141, A160, H⟩ := H
                replace H : ((hallmarkref01_divide.f kj10 t140 t141).bind fun bt142 => (if ((decide (a1 < 0)) != (decide (a2 < 0))) = true then ((hallmarkref01_minus.f kj10 bt142.1).bind fun t144 => (hallmarkref01_Arith.j1 kj10 a0 a1 t144 bt142.2)) else (hallmarkref01_Arith.j1 kj10 a0 a1 bt142.1 bt142.2))) = some (r1, r2) := H
                have A16 := Aside0.mk A160
                clear A160
                replace H := Option.bind_eq_some_iff.mp H
                obtain ⟨⟨t142, t143⟩, A170, H⟩ := H
                replace H : (if ((decide (a1 < 0)) != (decide (a2 < 0))) = true then ((hallmarkref01_minus.f kj10 t142).bind fun t144 => (hallmarkref01_Arith.j1 kj10 a0 a1 t144 t143)) else (hallmarkref01_Arith.j1 kj10 a0 a1 t142 t143)) = some (r1, r2) := H
                have A17 := Aside0.mk A170
                clear A170
                have HC18 := Aside0.mk H
                clear H
                go_upto_if 53 with (first | ((with_reducible refine gate_callee (f := 26) rfl ?_); refine goesL_ (some 43) rfl rfl Try.func26 (by kernel_rfl) rfl #[.int .i64 a1] rfl (by (try simp only [List.map_toArray, List.map_cons, List.map_nil]); first | done | rfl | (simp only [List.length_drop, List.length_take]; rfl)) ?_; (with_reducible refine (hallmarkref01_Size.calls kj10 a1 t140 _ A15.out).mono ?_); rintro e w' ⟨rfl, ⟨nd, rfl⟩⟩; refine ⟨_, rfl, ?_⟩) | ((with_reducible refine gate_callee (f := 26) rfl ?_); refine goesL_ (some 45) rfl rfl Try.func26 (by kernel_rfl) rfl #[.int .i64 a2] rfl (by (try simp only [List.map_toArray, List.map_cons, List.map_nil]); first | done | rfl | (simp only [List.length_drop, List.length_take]; rfl)) ?_; (with_reducible refine (hallmarkref01_Size.calls kj10 a2 t141 _ A16.out).mono ?_); rintro e w' ⟨rfl, ⟨nd, rfl⟩⟩; refine ⟨_, rfl, ?_⟩) | ((with_reducible refine gate_callee (f := 25) rfl ?_); refine goesL_ (some 46) rfl rfl Try.func25 (by kernel_rfl) rfl #[.int .u64 t140, .int .u64 t141] rfl (by (try simp only [List.map_toArray, List.map_cons, List.map_nil]); first | done | rfl | (simp only [List.length_drop, List.length_take]; rfl)) ?_; (with_reducible refine (hallmarkref01_divide.calls kj10 t140 t141 t142 t143 _ A17.out).mono ?_); rintro e w' ⟨rfl, ⟨nd, rfl⟩⟩; refine ⟨_, rfl, ?_⟩))
                (try simp only [Act.put, List.setIfInBounds_toArray, List.set_cons_zero, List.set_cons_succ])
                go_cut [10] (fun v10 wc => ∃ (kq : Nat) (x10_17 : Int), v10 = .int .u64 x10_17 ∧ Aside0 (hallmarkref01_Arith.j1 kq a0 a1 x10_17 t143 = some (r1, r2)) ∧ Aside0 (kq ≤ kj10) ∧ Drawn0 w wc)
                case first =>
                  have H := HC18.out
                  clear HC18
                  by_cases c19 : ((decide (a1 < 0)) != (decide (a2 < 0))) = true
                  · rw [if_pos c19] at H
                    have c19b0 : ((decide (a1 < 0)) != (decide (a2 < 0))) = true := c19
                    have c19b9 : ((!(decide (a1 < 0))) == (decide (a2 < 0))) = true := by rw [← c19b0]; generalize decide (a1 < 0) = x_; generalize decide (a2 < 0) = y_; cases x_ <;> cases y_ <;> rfl
                    (try (have c19b1 : decide ((decide (a1 < 0)) = (decide (a2 < 0))) = false := by simpa using c19))
                    (try (have c19b2 : ((decide (a1 < 0)) == (decide (a2 < 0))) = false := by simpa using c19))
                    (try (have c19b3 : ¬ ((decide (a1 < 0)) = (decide (a2 < 0))) := by simpa using c19))
                    clear c19
                    (first | rw [c19b0] | (simp only [i64_w, i32_w]; rw [c19b0]) | rw [c19b1] | skip)
                    replace H := Option.bind_eq_some_iff.mp H
                    obtain ⟨t144, A200, H⟩ := H
                    replace H : (hallmarkref01_Arith.j1 kj10 a0 a1 t144 t143) = some (r1, r2) := H
                    have A20 := Aside0.mk A200
                    clear A200
                    have H' := Aside0.mk H
                    clear H
                    obtain ⟨z1, s1⟩ : ∃ z_, decide (a1 < 0) = z_ := ⟨_, rfl⟩
                    obtain ⟨z2, s2⟩ : ∃ z_, decide (a2 < 0) = z_ := ⟨_, rfl⟩
                    rw [s1, s2] at c19b0
                    (try clear c19b1)
                    (try clear c19b2)
                    (try clear c19b3)
                    (try clear c19b9)
                    cases z1 <;> cases z2 <;> first | (exfalso; revert c19b0; decide) | (clear c19b0; (try simp only [s1, s2]); go_wp2_with (first | ((with_reducible refine gate_callee (f := 23) rfl ?_); refine goesL_ (some 55) rfl rfl Try.func23 (by kernel_rfl) rfl #[.int .u64 t142] rfl (by (try simp only [List.map_toArray, List.map_cons, List.map_nil]); first | done | rfl | (simp only [List.length_drop, List.length_take]; rfl)) ?_; (with_reducible refine (hallmarkref01_minus.calls kj10 t142 t144 _ A20.out).mono ?_); rintro e w' ⟨rfl, ⟨nd, rfl⟩⟩; refine ⟨_, rfl, ?_⟩)); go_meet; case rel => exact ⟨_, (t144), (by first | rfl | (simp; done) | (simp [*]; done)), H', ⟨by have := HJ10.out; first | omega | exact Nat.le_refl _⟩, by repeat (first | exact Drawn0.refl _ | apply Drawn0.step)⟩)
                  · rw [if_neg c19] at H
                    have c19b0 : ((decide (a1 < 0)) != (decide (a2 < 0))) = false := by simpa using c19
                    have c19b9 : ((!(decide (a1 < 0))) == (decide (a2 < 0))) = false := by rw [← c19b0]; generalize decide (a1 < 0) = x_; generalize decide (a2 < 0) = y_; cases x_ <;> cases y_ <;> rfl
                    (try (have c19b1 : decide ((decide (a1 < 0)) = (decide (a2 < 0))) = true := by simpa using c19))
                    (try (have c19b2 : ((decide (a1 < 0)) == (decide (a2 < 0))) = true := by simpa using c19))
                    clear c19
                    (first | rw [c19b0] | (simp only [i64_w, i32_w]; rw [c19b0]) | rw [c19b1] | skip)
                    have H' := Aside0.mk H
                    clear H
                    obtain ⟨z1, s1⟩ : ∃ z_, decide (a1 < 0) = z_ := ⟨_, rfl⟩
                    obtain ⟨z2, s2⟩ : ∃ z_, decide (a2 < 0) = z_ := ⟨_, rfl⟩
                    rw [s1, s2] at c19b0
                    (try clear c19b1)
                    (try clear c19b2)
                    (try clear c19b3)
                    (try clear c19b9)
                    cases z1 <;> cases z2 <;> first | (exfalso; revert c19b0; decide) | (clear c19b0; (try simp only [s1, s2]); go_wp2; go_meet; case rel => exact ⟨_, (t142), (by first | rfl | (simp; done) | (simp [*]; done)), H', ⟨by have := HJ10.out; first | omega | exact Nat.le_refl _⟩, by repeat (first | exact Drawn0.refl _ | apply Drawn0.step)⟩)
                case rest =>
                  clear HC18
                  try clear c1
                  try clear c2
                  try clear p2
                  try clear c4
                  try clear c4b0
                  try clear c4b1
                  try clear c6
                  try clear c6b0
                  try clear c6b1
                  try clear p6
                  try clear c9
                  try clear c9b0
                  try clear c9b1
                  try clear c10
                  try clear c12
                  try clear c12b0
                  try clear c12b1
                  try clear c13
                  try clear c14
                  try clear c14b0
                  try clear c14b1
                  try clear c19
                  try clear c19b0
                  try clear c19b1
                  try clear c19b2
                  try clear p2
                  try clear p6
                  obtain ⟨kq, x10_17, rfl, HA, HJ17, ⟨mc17, rfl⟩⟩ := hcut
                  cases kq with
                  | zero => exact absurd HA.out (by simp [hallmarkref01_Arith.j1])
                  | succ kj17 =>
                    have H := HA.out
                    clear HA
                    simp only [hallmarkref01_Arith.j1] at H
                    by_cases c21 : a1 < 0
                    · rw [if_pos c21] at H
                      have c21b0 : decide (a1 < 0) = true := decide_eq_true c21
                      clear c21
                      replace H := Option.bind_eq_some_iff.mp H
                      obtain ⟨t145, A220, H⟩ := H
                      replace H : (if a0 = 3 then (some (wrap64 (x10_17), true)) else (some (wrap64 (t145), true))) = some (r1, r2) := H
                      have A22 := Aside0.mk A220
                      clear A220
                      by_cases c23 : a0 = 3
                      · rw [if_pos c23] at H
                        have c23b0 : (a0 == 3) = true := beq_iff_eq.mpr c23
                        have c23b1 : (a0 != 3) = false := bne_eq_false_iff_eq.mpr c23
                        clear c23
                        simp only [Option.some.injEq, Prod.mk.injEq] at H
                        obtain ⟨rfl, rfl⟩ := H
                        go_wp2_with (first | ((with_reducible refine gate_callee (f := 23) rfl ?_); refine goesL_ (some 59) rfl rfl Try.func23 (by kernel_rfl) rfl #[.int .u64 t143] rfl (by (try simp only [List.map_toArray, List.map_cons, List.map_nil]); first | done | rfl | (simp only [List.length_drop, List.length_take]; rfl)) ?_; (with_reducible refine (hallmarkref01_minus.calls kj17 t143 t145 _ A22.out).mono ?_); rintro e w' ⟨rfl, ⟨nd, rfl⟩⟩; refine ⟨_, rfl, ?_⟩))
                        go_ret2
                        exact ⟨by first | rfl | (simp; done) | (simp [*]; done), by repeat (first | exact Drawn0.refl _ | apply Drawn0.step)⟩
                      · rw [if_neg c23] at H
                        have c23b0 : (a0 == 3) = false := beq_eq_false_iff_ne.mpr c23
                        have c23b1 : (a0 != 3) = true := bne_iff_ne.mpr c23
                        simp only [Option.some.injEq, Prod.mk.injEq] at H
                        obtain ⟨rfl, rfl⟩ := H
                        go_wp2_with (first | ((with_reducible refine gate_callee (f := 23) rfl ?_); refine goesL_ (some 59) rfl rfl Try.func23 (by kernel_rfl) rfl #[.int .u64 t143] rfl (by (try simp only [List.map_toArray, List.map_cons, List.map_nil]); first | done | rfl | (simp only [List.length_drop, List.length_take]; rfl)) ?_; (with_reducible refine (hallmarkref01_minus.calls kj17 t143 t145 _ A22.out).mono ?_); rintro e w' ⟨rfl, ⟨nd, rfl⟩⟩; refine ⟨_, rfl, ?_⟩))
                        go_ret2
                        exact ⟨by first | rfl | (simp; done) | (simp [*]; done), by repeat (first | exact Drawn0.refl _ | apply Drawn0.step)⟩
                    · rw [if_neg c21] at H
                      have c21b0 : decide (a1 < 0) = false := decide_eq_false c21
                      clear c21
                      by_cases c24 : a0 = 3
                      · rw [if_pos c24] at H
                        have c24b0 : (a0 == 3) = true := beq_iff_eq.mpr c24
                        have c24b1 : (a0 != 3) = false := bne_eq_false_iff_eq.mpr c24
                        clear c24
                        simp only [Option.some.injEq, Prod.mk.injEq] at H
                        obtain ⟨rfl, rfl⟩ := H
                        go_wp2
                        go_ret2
                        exact ⟨by first | rfl | (simp; done) | (simp [*]; done), by repeat (first | exact Drawn0.refl _ | apply Drawn0.step)⟩
                      · rw [if_neg c24] at H
                        have c24b0 : (a0 == 3) = false := beq_eq_false_iff_ne.mpr c24
                        have c24b1 : (a0 != 3) = true := bne_iff_ne.mpr c24
                        simp only [Option.some.injEq, Prod.mk.injEq] at H
                        obtain ⟨rfl, rfl⟩ := H
                        go_wp2
                        go_ret2
                        exact ⟨by first | rfl | (simp; done) | (simp [*]; done), by repeat (first | exact Drawn0.refl _ | apply Drawn0.step)⟩
            · replace c13 := Bool.eq_false_iff.mpr c13
              subst c13
              have H1 : (if a0 = 5 then (hallmarkref01_Arith.j2 kj10 a0 a1 a2 (IntKind.u64.wrap (a1)) (IntKind.u64.wrap (a2)) a0 (a0 == 5)) else (if a0 = 6 then (hallmarkref01_Arith.j2 kj10 a0 a1 a2 (IntKind.u64.wrap (a1)) (IntKind.u64.wrap (a2)) a0 (a0 == 6)) else (hallmarkref01_Arith.j2 kj10 a0 a1 a2 (IntKind.u64.wrap (a1)) (IntKind.u64.wrap (a2)) a0 (a0 == 7)))) = some (r1, r2) := by rw [if_neg (show ¬ (false = true) by decide)] at H; exact H
              clear H
              have H := H1
              clear H1
              have HC25 := Aside0.mk H
              clear H
              go_upto_if 66 with (fail)
              go_cut [66] (fun v66 wc => ∃ (kq : Nat) (x66_24 : Bool), v66 = .bool x66_24 ∧ Aside0 (hallmarkref01_Arith.j2 kq a0 a1 a2 (IntKind.u64.wrap (a1)) (IntKind.u64.wrap (a2)) a0 x66_24 = some (r1, r2)) ∧ Aside0 (kq ≤ kj10) ∧ Drawn0 w wc)
              case first =>
                have H := HC25.out
                clear HC25
                by_cases c26 : a0 = 5
                · rw [if_pos c26] at H
                  have c26b0 : (a0 == 5) = true := beq_iff_eq.mpr c26
                  have c26b1 : (a0 != 5) = false := bne_eq_false_iff_eq.mpr c26
                  clear c26
                  (first | rw [c26b0] | (simp only [i64_w, i32_w]; rw [c26b0]) | rw [c26b1] | skip)
                  have H' := Aside0.mk H
                  clear H
                  go_wp2
                  go_meet
                  case rel => exact ⟨_, ((a0 == 5)), (by first | rfl | (simp; done) | (simp [*]; done)), H', ⟨by have := HJ10.out; first | omega | exact Nat.le_refl _⟩, by repeat (first | exact Drawn0.refl _ | apply Drawn0.step)⟩
                · rw [if_neg c26] at H
                  have c26b0 : (a0 == 5) = false := beq_eq_false_iff_ne.mpr c26
                  have c26b1 : (a0 != 5) = true := bne_iff_ne.mpr c26
                  (first | rw [c26b0] | (simp only [i64_w, i32_w]; rw [c26b0]) | rw [c26b1] | skip)
                  by_cases c27 : a0 = 6
                  · rw [if_pos c27] at H
                    have c27b0 : (a0 == 6) = true := beq_iff_eq.mpr c27
                    have c27b1 : (a0 != 6) = false := bne_eq_false_iff_eq.mpr c27
                    clear c27
                    have H' := Aside0.mk H
                    clear H
                    go_wp2
                    go_meet
                    case rel => exact ⟨_, ((a0 == 6)), (by first | rfl | (simp; done) | (simp [*]; done)), H', ⟨by have := HJ10.out; first | omega | exact Nat.le_refl _⟩, by repeat (first | exact Drawn0.refl _ | apply Drawn0.step)⟩
                  · rw [if_neg c27] at H
                    have c27b0 : (a0 == 6) = false := beq_eq_false_iff_ne.mpr c27
                    have c27b1 : (a0 != 6) = true := bne_iff_ne.mpr c27
                    have H' := Aside0.mk H
                    clear H
                    go_wp2
                    go_meet
                    case rel => exact ⟨_, ((a0 == 7)), (by first | rfl | (simp; done) | (simp [*]; done)), H', ⟨by have := HJ10.out; first | omega | exact Nat.le_refl _⟩, by repeat (first | exact Drawn0.refl _ | apply Drawn0.step)⟩
              case rest =>
                clear HC25
                try clear c1
                try clear c2
                try clear p2
                try clear c4
                try clear c4b0
                try clear c4b1
                try clear c6
                try clear c6b0
                try clear c6b1
                try clear p6
                try clear c9
                try clear c9b0
                try clear c9b1
                try clear c10
                try clear c12
                try clear c12b0
                try clear c12b1
                try clear c13
                try clear c14
                try clear c14b0
                try clear c14b1
                try clear c17
                try clear c19
                try clear c19b0
                try clear c19b1
                try clear c19b2
                try clear c21
                try clear c21b0
                try clear c22
                try clear c23
                try clear c23b0
                try clear c23b1
                try clear c24
                try clear c24b0
                try clear c24b1
                try clear c25
                try clear c26
                try clear c26b0
                try clear c26b1
                try clear c27
                try clear c27b0
                try clear c27b1
                try clear p2
                try clear p6
                obtain ⟨kq, x66_24, rfl, HA, HJ24, ⟨mc24, rfl⟩⟩ := hcut
                cases kq with
                | zero => exact absurd HA.out (by simp [hallmarkref01_Arith.j2])
                | succ kj24 =>
                  have H := HA.out
                  clear HA
                  simp only [hallmarkref01_Arith.j2] at H
                  by_cases c28 : x66_24 = true
                  · subst c28
                    have H1 : ((hallmarkref01_bits.f kj24 a0 (IntKind.u64.wrap (a1)) (IntKind.u64.wrap (a2))).bind fun t146 => (some (wrap64 (t146), true))) = some (r1, r2) := by rw [if_pos rfl] at H; exact H
                    clear H
                    have H := H1
                    clear H1
                    replace H := Option.bind_eq_some_iff.mp H
                    obtain ⟨t146, A290, H⟩ := H
                    replace H : (some (wrap64 (t146), true)) = some (r1, r2) := H
                    have A29 := Aside0.mk A290
                    clear A290
                    simp only [Option.some.injEq, Prod.mk.injEq] at H
                    obtain ⟨rfl, rfl⟩ := H
                    go_wp2_with (first | ((with_reducible refine gate_callee (f := 27) rfl ?_); refine goesL_ (some 73) rfl rfl Try.func27 (by kernel_rfl) rfl #[.int .i64 a0, .int .u64 (IntKind.u64.wrap (a1)), .int .u64 (IntKind.u64.wrap (a2))] rfl (by (try simp only [List.map_toArray, List.map_cons, List.map_nil]); first | done | rfl | (simp only [List.length_drop, List.length_take]; rfl)) ?_; (with_reducible refine (hallmarkref01_bits.calls kj24 a0 (IntKind.u64.wrap (a1)) (IntKind.u64.wrap (a2)) t146 _ A29.out).mono ?_); rintro e w' ⟨rfl, ⟨nd, rfl⟩⟩; refine ⟨_, rfl, ?_⟩))
                    go_ret2
                    exact ⟨by first | rfl | (simp; done) | (simp [*]; done), by repeat (first | exact Drawn0.refl _ | apply Drawn0.step)⟩
                  · replace c28 := Bool.eq_false_iff.mpr c28
                    subst c28
                    have H1 : (if a0 = 8 then (hallmarkref01_Arith.j3 kj24 a0 a1 a2 (IntKind.u64.wrap (a1)) (IntKind.u64.wrap (a2)) a0 (a0 == 8)) else (hallmarkref01_Arith.j3 kj24 a0 a1 a2 (IntKind.u64.wrap (a1)) (IntKind.u64.wrap (a2)) a0 (a0 == 9))) = some (r1, r2) := by rw [if_neg (show ¬ (false = true) by decide)] at H; exact H
                    clear H
                    have H := H1
                    clear H1
                    have HC30 := Aside0.mk H
                    clear H
                    go_upto_if 75 with (fail)
                    go_cut [75] (fun v75 wc => ∃ (kq : Nat) (x75_29 : Bool), v75 = .bool x75_29 ∧ Aside0 (hallmarkref01_Arith.j3 kq a0 a1 a2 (IntKind.u64.wrap (a1)) (IntKind.u64.wrap (a2)) a0 x75_29 = some (r1, r2)) ∧ Aside0 (kq ≤ kj24) ∧ Drawn0 w wc)
                    case first =>
                      have H := HC30.out
                      clear HC30
                      by_cases c31 : a0 = 8
                      · rw [if_pos c31] at H
                        have c31b0 : (a0 == 8) = true := beq_iff_eq.mpr c31
                        have c31b1 : (a0 != 8) = false := bne_eq_false_iff_eq.mpr c31
                        clear c31
                        (first | rw [c31b0] | (simp only [i64_w, i32_w]; rw [c31b0]) | rw [c31b1] | skip)
                        have H' := Aside0.mk H
                        clear H
                        go_wp2
                        go_meet
                        case rel => exact ⟨_, ((a0 == 8)), (by first | rfl | (simp; done) | (simp [*]; done)), H', ⟨by have := HJ10.out; have := HJ24.out; first | omega | exact Nat.le_refl _⟩, by repeat (first | exact Drawn0.refl _ | apply Drawn0.step)⟩
                      · rw [if_neg c31] at H
                        have c31b0 : (a0 == 8) = false := beq_eq_false_iff_ne.mpr c31
                        have c31b1 : (a0 != 8) = true := bne_iff_ne.mpr c31
                        (first | rw [c31b0] | (simp only [i64_w, i32_w]; rw [c31b0]) | rw [c31b1] | skip)
                        have H' := Aside0.mk H
                        clear H
                        go_wp2
                        go_meet
                        case rel => exact ⟨_, ((a0 == 9)), (by first | rfl | (simp; done) | (simp [*]; done)), H', ⟨by have := HJ10.out; have := HJ24.out; first | omega | exact Nat.le_refl _⟩, by repeat (first | exact Drawn0.refl _ | apply Drawn0.step)⟩
                    case rest =>
                      clear HC30
                      try clear c1
                      try clear c2
                      try clear p2
                      try clear c3
                      try clear c4
                      try clear c4b0
                      try clear c4b1
                      try clear c6
                      try clear c6b0
                      try clear c6b1
                      try clear p6
                      try clear c9
                      try clear c9b0
                      try clear c9b1
                      try clear c10
                      try clear c12
                      try clear c12b0
                      try clear c12b1
                      try clear c13
                      try clear c14
                      try clear c14b0
                      try clear c14b1
                      try clear c17
                      try clear c19
                      try clear c19b0
                      try clear c19b1
                      try clear c19b2
                      try clear c21
                      try clear c21b0
                      try clear c22
                      try clear c23
                      try clear c23b0
                      try clear c23b1
                      try clear c24
                      try clear c24b0
                      try clear c24b1
                      try clear c25
                      try clear c26
                      try clear c26b0
                      try clear c26b1
                      try clear c27
                      try clear c27b0
                      try clear c27b1
                      try clear c28
                      try clear c31
                      try clear c31b0
                      try clear c31b1
                      try clear p2
                      try clear p6
                      obtain ⟨kq, x75_29, rfl, HA, HJ29, ⟨mc29, rfl⟩⟩ := hcut
                      cases kq with
                      | zero => exact absurd HA.out (by simp [hallmarkref01_Arith.j3])
                      | succ kj29 =>
                        have H := HA.out
                        clear HA
                        simp only [hallmarkref01_Arith.j3] at H
                        by_cases c32 : x75_29 = true
                        · subst c32
                          have H1 : ((hallmarkref01_shift.f kj29 a1 (wrap64 (Int.tmod (IntKind.u64.wrap (a2)) 64)) (a0 == 8)).bind fun t147 => (some (t147, true))) = some (r1, r2) := by rw [if_pos rfl] at H; exact H
                          clear H
                          have H := H1
                          clear H1
                          replace H := Option.bind_eq_some_iff.mp H
                          obtain ⟨t147, A330, H⟩ := H
                          replace H : (some (t147, true)) = some (r1, r2) := H
                          have A33 := Aside0.mk A330
                          clear A330
                          simp only [Option.some.injEq, Prod.mk.injEq] at H
                          obtain ⟨rfl, rfl⟩ := H
                          go_wp2_with (first | ((with_reducible refine gate_callee (f := 28) rfl ?_); refine goesL_ (some 84) rfl rfl Try.func28 (by kernel_rfl) rfl #[.int .i64 a1, .int .i64 (wrap64 (Int.tmod (IntKind.u64.wrap (a2)) 64)), .bool (a0 == 8)] rfl (by (try simp only [List.map_toArray, List.map_cons, List.map_nil]); first | done | rfl | (simp only [List.length_drop, List.length_take]; rfl)) ?_; (with_reducible refine (hallmarkref01_shift.calls kj29 a1 (wrap64 (Int.tmod (IntKind.u64.wrap (a2)) 64)) (a0 == 8) t147 _ A33.out).mono ?_); rintro e w' ⟨rfl, ⟨nd, rfl⟩⟩; refine ⟨_, rfl, ?_⟩))
                          go_ret2
                          exact ⟨by first | rfl | (simp; done) | (simp [*]; done), by repeat (first | exact Drawn0.refl _ | apply Drawn0.step)⟩
                        · replace c32 := Bool.eq_false_iff.mpr c32
                          subst c32
                          have H1 : (if a0 = 10 then ((hallmarkref01_less.f kj29 a1 a2).bind fun t148 => ((hallmarkref01_truth.f t148).bind fun t149 => (some (t149, true)))) else (if a0 = 11 then ((hallmarkref01_less.f kj29 a2 a1).bind fun t150 => ((hallmarkref01_truth.f (!t150)).bind fun t151 => (some (t151, true)))) else (if a0 = 12 then ((hallmarkref01_truth.f ((IntKind.u64.wrap (a1)) == (IntKind.u64.wrap (a2)))).bind fun t152 => (some (t152, true))) else (if a0 = 13 then ((hallmarkref01_truth.f ((IntKind.u64.wrap (a1)) != (IntKind.u64.wrap (a2)))).bind fun t153 => (some (t153, true))) else (some (0, false)))))) = some (r1, r2) := by rw [if_neg (show ¬ (false = true) by decide)] at H; exact H
                          clear H
                          have H := H1
                          clear H1
                          by_cases c34 : a0 = 10
                          · rw [if_pos c34] at H
                            have c34b0 : (a0 == 10) = true := beq_iff_eq.mpr c34
                            have c34b1 : (a0 != 10) = false := bne_eq_false_iff_eq.mpr c34
                            clear c34
                            replace H := Option.bind_eq_some_iff.mp H
                            obtain ⟨t148, A350, H⟩ := H
                            replace H : ((hallmarkref01_truth.f t148).bind fun t149 => (some (t149, true))) = some (r1, r2) := H
                            have A35 := Aside0.mk A350
                            clear A350
                            replace H := Option.bind_eq_some_iff.mp H
                            obtain ⟨t149, A360, H⟩ := H
                            replace H : (some (t149, true)) = some (r1, r2) := H
                            have A36 := Aside0.mk A360
                            clear A360
                            simp only [Option.some.injEq, Prod.mk.injEq] at H
                            obtain ⟨rfl, rfl⟩ := H
                            go_wp2_with (first | ((with_reducible refine gate_callee (f := 30) rfl ?_); refine goesL_ (some 89) rfl rfl Try.func30 (by kernel_rfl) rfl #[.int .i64 a1, .int .i64 a2] rfl (by (try simp only [List.map_toArray, List.map_cons, List.map_nil]); first | done | rfl | (simp only [List.length_drop, List.length_take]; rfl)) ?_; (with_reducible refine (hallmarkref01_less.calls kj29 a1 a2 t148 _ A35.out).mono ?_); rintro e w' ⟨rfl, ⟨nd, rfl⟩⟩; refine ⟨_, rfl, ?_⟩) | ((with_reducible refine gate_callee (f := 29) rfl ?_); refine goesL_ (some 90) rfl rfl Try.func29 (by kernel_rfl) rfl #[.bool t148] rfl (by (try simp only [List.map_toArray, List.map_cons, List.map_nil]); first | done | rfl | (simp only [List.length_drop, List.length_take]; rfl)) ?_; (with_reducible refine (hallmarkref01_truth.calls t148 t149 _ A36.out).mono ?_); rintro e w' ⟨rfl, ⟨nd, rfl⟩⟩; refine ⟨_, rfl, ?_⟩))
                            go_ret2
                            exact ⟨by first | rfl | (simp; done) | (simp [*]; done), by repeat (first | exact Drawn0.refl _ | apply Drawn0.step)⟩
                          · rw [if_neg c34] at H
                            have c34b0 : (a0 == 10) = false := beq_eq_false_iff_ne.mpr c34
                            have c34b1 : (a0 != 10) = true := bne_iff_ne.mpr c34
                            by_cases c37 : a0 = 11
                            · rw [if_pos c37] at H
                              have c37b0 : (a0 == 11) = true := beq_iff_eq.mpr c37
                              have c37b1 : (a0 != 11) = false := bne_eq_false_iff_eq.mpr c37
                              clear c37
                              replace H := Option.bind_eq_some_iff.mp H
                              obtain ⟨t150, A380, H⟩ := H
                              replace H : ((hallmarkref01_truth.f (!t150)).bind fun t151 => (some (t151, true))) = some (r1, r2) := H
                              have A38 := Aside0.mk A380
                              clear A380
                              replace H := Option.bind_eq_some_iff.mp H
                              obtain ⟨t151, A390, H⟩ := H
                              replace H : (some (t151, true)) = some (r1, r2) := H
                              have A39 := Aside0.mk A390
                              clear A390
                              simp only [Option.some.injEq, Prod.mk.injEq] at H
                              obtain ⟨rfl, rfl⟩ := H
                              go_wp2_with (first | ((with_reducible refine gate_callee (f := 30) rfl ?_); refine goesL_ (some 95) rfl rfl Try.func30 (by kernel_rfl) rfl #[.int .i64 a2, .int .i64 a1] rfl (by (try simp only [List.map_toArray, List.map_cons, List.map_nil]); first | done | rfl | (simp only [List.length_drop, List.length_take]; rfl)) ?_; (with_reducible refine (hallmarkref01_less.calls kj29 a2 a1 t150 _ A38.out).mono ?_); rintro e w' ⟨rfl, ⟨nd, rfl⟩⟩; refine ⟨_, rfl, ?_⟩) | ((with_reducible refine gate_callee (f := 29) rfl ?_); refine goesL_ (some 97) rfl rfl Try.func29 (by kernel_rfl) rfl #[.bool (!t150)] rfl (by (try simp only [List.map_toArray, List.map_cons, List.map_nil]); first | done | rfl | (simp only [List.length_drop, List.length_take]; rfl)) ?_; (with_reducible refine (hallmarkref01_truth.calls (!t150) t151 _ A39.out).mono ?_); rintro e w' ⟨rfl, ⟨nd, rfl⟩⟩; refine ⟨_, rfl, ?_⟩))
                              go_ret2
                              exact ⟨by first | rfl | (simp; done) | (simp [*]; done), by repeat (first | exact Drawn0.refl _ | apply Drawn0.step)⟩
                            · rw [if_neg c37] at H
                              have c37b0 : (a0 == 11) = false := beq_eq_false_iff_ne.mpr c37
                              have c37b1 : (a0 != 11) = true := bne_iff_ne.mpr c37
                              by_cases c40 : a0 = 12
                              · rw [if_pos c40] at H
                                have c40b0 : (a0 == 12) = true := beq_iff_eq.mpr c40
                                have c40b1 : (a0 != 12) = false := bne_eq_false_iff_eq.mpr c40
                                clear c40
                                replace H := Option.bind_eq_some_iff.mp H
                                obtain ⟨t152, A410, H⟩ := H
                                replace H : (some (t152, true)) = some (r1, r2) := H
                                have A41 := Aside0.mk A410
                                clear A410
                                simp only [Option.some.injEq, Prod.mk.injEq] at H
                                obtain ⟨rfl, rfl⟩ := H
                                go_wp2_with (first | ((with_reducible refine gate_callee (f := 29) rfl ?_); refine goesL_ (some 103) rfl rfl Try.func29 (by kernel_rfl) rfl #[.bool ((IntKind.u64.wrap (a1)) == (IntKind.u64.wrap (a2)))] rfl (by (try simp only [List.map_toArray, List.map_cons, List.map_nil]); first | done | rfl | (simp only [List.length_drop, List.length_take]; rfl)) ?_; (with_reducible refine (hallmarkref01_truth.calls ((IntKind.u64.wrap (a1)) == (IntKind.u64.wrap (a2))) t152 _ A41.out).mono ?_); rintro e w' ⟨rfl, ⟨nd, rfl⟩⟩; refine ⟨_, rfl, ?_⟩))
                                go_ret2
                                exact ⟨by first | rfl | (simp; done) | (simp [*]; done), by repeat (first | exact Drawn0.refl _ | apply Drawn0.step)⟩
                              · rw [if_neg c40] at H
                                have c40b0 : (a0 == 12) = false := beq_eq_false_iff_ne.mpr c40
                                have c40b1 : (a0 != 12) = true := bne_iff_ne.mpr c40
                                by_cases c42 : a0 = 13
                                · rw [if_pos c42] at H
                                  have c42b0 : (a0 == 13) = true := beq_iff_eq.mpr c42
                                  have c42b1 : (a0 != 13) = false := bne_eq_false_iff_eq.mpr c42
                                  clear c42
                                  replace H := Option.bind_eq_some_iff.mp H
                                  obtain ⟨t153, A430, H⟩ := H
                                  replace H : (some (t153, true)) = some (r1, r2) := H
                                  have A43 := Aside0.mk A430
                                  clear A430
                                  simp only [Option.some.injEq, Prod.mk.injEq] at H
                                  obtain ⟨rfl, rfl⟩ := H
                                  go_wp2_with (first | ((with_reducible refine gate_callee (f := 29) rfl ?_); refine goesL_ (some 109) rfl rfl Try.func29 (by kernel_rfl) rfl #[.bool ((IntKind.u64.wrap (a1)) != (IntKind.u64.wrap (a2)))] rfl (by (try simp only [List.map_toArray, List.map_cons, List.map_nil]); first | done | rfl | (simp only [List.length_drop, List.length_take]; rfl)) ?_; (with_reducible refine (hallmarkref01_truth.calls ((IntKind.u64.wrap (a1)) != (IntKind.u64.wrap (a2))) t153 _ A43.out).mono ?_); rintro e w' ⟨rfl, ⟨nd, rfl⟩⟩; refine ⟨_, rfl, ?_⟩))
                                  go_ret2
                                  exact ⟨by first | rfl | (simp; done) | (simp [*]; done), by repeat (first | exact Drawn0.refl _ | apply Drawn0.step)⟩
                                · rw [if_neg c42] at H
                                  have c42b0 : (a0 == 13) = false := beq_eq_false_iff_ne.mpr c42
                                  have c42b1 : (a0 != 13) = true := bne_iff_ne.mpr c42
                                  simp only [Option.some.injEq, Prod.mk.injEq] at H
                                  obtain ⟨rfl, rfl⟩ := H
                                  go_wp2
                                  go_ret2
                                  exact ⟨by first | rfl | (simp; done) | (simp [*]; done), by repeat (first | exact Drawn0.refl _ | apply Drawn0.step)⟩

end Go.Proofs.Ytddkjckheacecaa.PWordChains
