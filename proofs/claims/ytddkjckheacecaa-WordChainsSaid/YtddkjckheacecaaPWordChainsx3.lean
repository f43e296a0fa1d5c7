-- written by wip/print2.py
import Derived.Test.YtddkjckheacecaaPWordChainsx0
import Derived.Test.YtddkjckheacecaaPWordChainsx1
namespace Go.Proofs.Ytddkjckheacecaa.PWordChains
open Go.RowKit Go.Proofs.YtddkjckheacecaaW.PrintWords Go.Proofs.YtddkjckheacecaaW.PrintLast Go.Proofs.YtddkjckheacecaaW.PrintMore
attribute [local go_sem] max2_int min2_int max_two min_two max_three min_three max_four min_four   -- for this text's walks alone
set_option linter.unusedVariables false
set_option linter.unusedSimpArgs false

/-! ### hallmarkref01_truth: function 29 -/
def hallmarkref01_truth.f (a0 : Bool) : Option (Int) := if a0 = true then (some 1) else (some 0)
set_option maxHeartbeats 8000000 in
set_option maxRecDepth 100000 in
theorem hallmarkref01_truth.calls (a0 : Bool) (r : Int) (w : World) (h : hallmarkref01_truth.f a0 = some r) :
    Calls Try.prog 29 #[.bool a0] w fun e w' => e = .returned (.int .i64 r) ∧ Drawn0 w w' := by
  have H : (if a0 = true then (some 1) else (some 0)) = some r := h
  clear h
  by_cases c2 : a0 = true
  · subst c2
    have H1 : (some 1) = some r := by rw [if_pos rfl] at H; exact H
    clear H
    have H := H1
    clear H1
    obtain rfl := Option.some.inj H
    go_enter Try.func29, Try.ntmps29
    go_wp2
    go_ret
    exact ⟨by first | rfl | (simp; done) | (simp [*]; done), by repeat (first | exact Drawn0.refl _ | apply Drawn0.step)⟩
  · replace c2 := Bool.eq_false_iff.mpr c2
    subst c2
    have H1 : (some 0) = some r := by rw [if_neg (show ¬ (false = true) by decide)] at H; exact H
    clear H
    have H := H1
    clear H1
    obtain rfl := Option.some.inj H
    go_enter Try.func29, Try.ntmps29
    go_wp2
    go_ret
    exact ⟨by first | rfl | (simp; done) | (simp [*]; done), by repeat (first | exact Drawn0.refl _ | apply Drawn0.step)⟩

/-! ### hallmarkref01_less: function 30 -/
def hallmarkref01_less.l0 : Nat → Int → Int → Int → Option (Bool)
  | 0, _, _, _ => none
  | k + 1, x5, x6, x7 => if x7 ≥ 0 then ((hallmarkref01_Bit.f x5 x7).bind fun t133 => ((hallmarkref01_Bit.f x6 x7).bind fun t134 => (if t133 = t134 then (hallmarkref01_less.l0 k x5 x6 (wrap64 (x7 - 1))) else ((hallmarkref01_Bit.f x6 x7).bind fun t135 => (some (t135 == 1)))))) else (some false)
def hallmarkref01_less.f (k : Nat) (a0 : Int) (a1 : Int) : Option (Bool) := hallmarkref01_less.l0 k (Go.bits .xor .u64 (IntKind.u64.wrap (a0)) 9223372036854775808) (Go.bits .xor .u64 (IntKind.u64.wrap (a1)) 9223372036854775808) 63
theorem hallmarkref01_less.mono_l : ∀ k, (∀ y0 y1 y2, LeO (hallmarkref01_less.l0 k y0 y1 y2) (hallmarkref01_less.l0 (k + 1) y0 y1 y2))
  | 0 => fun _ _ _ r h => by simp [hallmarkref01_less.l0] at h
  | k + 1 => by
    have ih0 := hallmarkref01_less.mono_l k
    · intro y0 y1 y2
      unfold hallmarkref01_less.l0
      repeat' first
      | (with_reducible exact ih0 _ _ _)
      | (with_reducible exact LeO.refl _)
      | (with_reducible exact LeO.none _)
      | (with_reducible refine LeO.ite ?_ ?_)
      | (with_reducible refine LeO.bind ?_ (fun _ => ?_))
      | exact ih0 _ _ _
      | exact LeO.none _
      | refine LeO.ite ?_ ?_
      | refine LeO.bind ?_ (fun _ => ?_)
theorem hallmarkref01_less.mono : ∀ a0 a1 k, LeO (hallmarkref01_less.f k a0 a1) (hallmarkref01_less.f (k + 1) a0 a1) := by
  intro a0 a1 k
  have ih0 := hallmarkref01_less.mono_l k
  unfold hallmarkref01_less.f
  repeat' first
      | (with_reducible exact ih0 _ _ _)
      | (with_reducible exact LeO.refl _)
      | (with_reducible exact LeO.none _)
      | (with_reducible refine LeO.ite ?_ ?_)
      | (with_reducible refine LeO.bind ?_ (fun _ => ?_))
      | exact ih0 _ _ _
      | exact LeO.none _
      | refine LeO.ite ?_ ?_
      | refine LeO.bind ?_ (fun _ => ?_)
set_option maxHeartbeats 8000000 in
set_option maxRecDepth 100000 in
theorem hallmarkref01_less.calls (k : Nat) (a0 : Int) (a1 : Int) (r : Bool) (w : World) (h : hallmarkref01_less.f k a0 a1 = some r) :
    Calls Try.prog 30 #[.int .i64 a0, .int .i64 a1] w fun e w' => e = .returned (.bool r) ∧ Drawn0 w w' := by
  have H : (hallmarkref01_less.l0 k (Go.bits .xor .u64 (IntKind.u64.wrap (a0)) 9223372036854775808) (Go.bits .xor .u64 (IntKind.u64.wrap (a1)) 9223372036854775808) 63) = some r := h
  clear h
  have H' := Aside0.mk H
  clear H
  go_enter Try.func30, Try.ntmps30
  go_wp2
  go_loopg [7] k (fun kq v7 w' => ∃ (x7_1 : Int), v7 = .int .i64 x7_1 ∧ Aside0 (hallmarkref01_less.l0 kq (Go.bits .xor .u64 (IntKind.u64.wrap (a0)) 9223372036854775808) (Go.bits .xor .u64 (IntKind.u64.wrap (a1)) 9223372036854775808) x7_1 = some r) ∧ Aside0 (kq ≤ k) ∧ Drawn0 w w')
  case atStart => exact ⟨(63), (by first | rfl | (simp; done) | (simp [*]; done)), H', ⟨Nat.le_refl _⟩, by repeat (first | exact Drawn0.refl _ | apply Drawn0.step)⟩
  case round =>
    clear H'
    try clear p2
    obtain ⟨x7_1, rfl, HA, HK1, ⟨m1, rfl⟩⟩ := hrel
    cases gk with
    | zero => exact absurd HA.out (by simp [hallmarkref01_less.l0])
    | succ k1 =>
      have H := HA.out
      clear HA
      simp only [hallmarkref01_less.l0] at H
      by_cases c3 : x7_1 ≥ 0
      · rw [if_pos c3] at H
        have c3b0 : decide (0 ≤ x7_1) = true := decide_eq_true c3
        clear c3
        replace H := Option.bind_eq_some_iff.mp H
        obtain ⟨t133, A40, H⟩ := H
        replace H : ((hallmarkref01_Bit.f (Go.bits .xor .u64 (IntKind.u64.wrap (a1)) 9223372036854775808) x7_1).bind fun t134 => (if t133 = t134 then (hallmarkref01_less.l0 k1 (Go.bits .xor .u64 (IntKind.u64.wrap (a0)) 9223372036854775808) (Go.bits .xor .u64 (IntKind.u64.wrap (a1)) 9223372036854775808) (wrap64 (x7_1 - 1))) else ((hallmarkref01_Bit.f (Go.bits .xor .u64 (IntKind.u64.wrap (a1)) 9223372036854775808) x7_1).bind fun t135 => (some (t135 == 1))))) = some r := H
        have A4 := Aside0.mk A40
        clear A40
        replace H := Option.bind_eq_some_iff.mp H
        obtain ⟨t134, A50, H⟩ := H
        replace H : (if t133 = t134 then (hallmarkref01_less.l0 k1 (Go.bits .xor .u64 (IntKind.u64.wrap (a0)) 9223372036854775808) (Go.bits .xor .u64 (IntKind.u64.wrap (a1)) 9223372036854775808) (wrap64 (x7_1 - 1))) else ((hallmarkref01_Bit.f (Go.bits .xor .u64 (IntKind.u64.wrap (a1)) 9223372036854775808) x7_1).bind fun t135 => (some (t135 == 1)))) = some r := H
        have A5 := Aside0.mk A50
        clear A50
        by_cases c6 : t133 = t134
        · rw [if_pos c6] at H
          have c6b0 : (t133 == t134) = true := beq_iff_eq.mpr c6
          have c6b1 : (t133 != t134) = false := bne_eq_false_iff_eq.mpr c6
          clear c6
          have H' := Aside0.mk H
          clear H
          go_wp2_with (first | ((with_reducible refine gate_callee (f := 33) rfl ?_); refine goesL_ (some 20) rfl rfl Try.func33 (by kernel_rfl) rfl #[.int .u64 (Go.bits .xor .u64 (IntKind.u64.wrap (a0)) 9223372036854775808), .int .i64 x7_1] rfl (by (try simp only [List.map_toArray, List.map_cons, List.map_nil]); first | done | rfl | (simp only [List.length_drop, List.length_take]; rfl)) ?_; (with_reducible refine (hallmarkref01_Bit.calls (Go.bits .xor .u64 (IntKind.u64.wrap (a0)) 9223372036854775808) x7_1 t133 _ A4.out).mono ?_); rintro e w' ⟨rfl, ⟨nd, rfl⟩⟩; refine ⟨_, rfl, ?_⟩) | ((with_reducible refine gate_callee (f := 33) rfl ?_); refine goesL_ (some 23) rfl rfl Try.func33 (by kernel_rfl) rfl #[.int .u64 (Go.bits .xor .u64 (IntKind.u64.wrap (a1)) 9223372036854775808), .int .i64 x7_1] rfl (by (try simp only [List.map_toArray, List.map_cons, List.map_nil]); first | done | rfl | (simp only [List.length_drop, List.length_take]; rfl)) ?_; (with_reducible refine (hallmarkref01_Bit.calls (Go.bits .xor .u64 (IntKind.u64.wrap (a1)) 9223372036854775808) x7_1 t134 _ A5.out).mono ?_); rintro e w' ⟨rfl, ⟨nd, rfl⟩⟩; refine ⟨_, rfl, ?_⟩))
          go_roundg k1
          case measure => have := HK1.out; omega
          case rel => exact ⟨(wrap64 (x7_1 - 1)), (by first | rfl | (simp; done) | (simp [*]; done)), H', ⟨by have := HK1.out; omega⟩, by repeat (first | exact Drawn0.refl _ | apply Drawn0.step)⟩
        · rw [if_neg c6] at H
          have c6b0 : (t133 == t134) = false := beq_eq_false_iff_ne.mpr c6
          have c6b1 : (t133 != t134) = true := bne_iff_ne.mpr c6
          replace H := Option.bind_eq_some_iff.mp H
          obtain ⟨t135, A70, H⟩ := H
          replace H : (some (t135 == 1)) = some r := H
          have A7 := Aside0.mk A70
          clear A70
          obtain rfl := Option.some.inj H
          go_wp2_with (first | ((with_reducible refine gate_callee (f := 33) rfl ?_); refine goesL_ (some 20) rfl rfl Try.func33 (by kernel_rfl) rfl #[.int .u64 (Go.bits .xor .u64 (IntKind.u64.wrap (a0)) 9223372036854775808), .int .i64 x7_1] rfl (by (try simp only [List.map_toArray, List.map_cons, List.map_nil]); first | done | rfl | (simp only [List.length_drop, List.length_take]; rfl)) ?_; (with_reducible refine (hallmarkref01_Bit.calls (Go.bits .xor .u64 (IntKind.u64.wrap (a0)) 9223372036854775808) x7_1 t133 _ A4.out).mono ?_); rintro e w' ⟨rfl, ⟨nd, rfl⟩⟩; refine ⟨_, rfl, ?_⟩) | ((with_reducible refine gate_callee (f := 33) rfl ?_); refine goesL_ (some 23) rfl rfl Try.func33 (by kernel_rfl) rfl #[.int .u64 (Go.bits .xor .u64 (IntKind.u64.wrap (a1)) 9223372036854775808), .int .i64 x7_1] rfl (by (try simp only [List.map_toArray, List.map_cons, List.map_nil]); first | done | rfl | (simp only [List.length_drop, List.length_take]; rfl)) ?_; (with_reducible refine (hallmarkref01_Bit.calls (Go.bits .xor .u64 (IntKind.u64.wrap (a1)) 9223372036854775808) x7_1 t134 _ A5.out).mono ?_); rintro e w' ⟨rfl, ⟨nd, rfl⟩⟩; refine ⟨_, rfl, ?_⟩) | ((with_reducible refine gate_callee (f := 33) rfl ?_); refine goesL_ (some 27) rfl rfl Try.func33 (by kernel_rfl) rfl #[.int .u64 (Go.bits .xor .u64 (IntKind.u64.wrap (a1)) 9223372036854775808), .int .i64 x7_1] rfl (by (try simp only [List.map_toArray, List.map_cons, List.map_nil]); first | done | rfl | (simp only [List.length_drop, List.length_take]; rfl)) ?_; (with_reducible refine (hallmarkref01_Bit.calls (Go.bits .xor .u64 (IntKind.u64.wrap (a1)) 9223372036854775808) x7_1 t135 _ A7.out).mono ?_); rintro e w' ⟨rfl, ⟨nd, rfl⟩⟩; refine ⟨_, rfl, ?_⟩))
          go_ret
          exact ⟨by first | rfl | (simp; done) | (simp [*]; done), by repeat (first | exact Drawn0.refl _ | apply Drawn0.step)⟩
      · rw [if_neg c3] at H
        have c3b0 : decide (0 ≤ x7_1) = false := decide_eq_false c3
        clear c3
        obtain rfl := Option.some.inj H
        go_wp2
        go_ret
        exact ⟨by first | rfl | (simp; done) | (simp [*]; done), by repeat (first | exact Drawn0.refl _ | apply Drawn0.step)⟩

end Go.Proofs.Ytddkjckheacecaa.PWordChains
