-- written by wip/print2.py
import Derived.Test.YtemclhndmcjmmaaPDomEdgesx0
import Derived.Test.YtemclhndmcjmmaaPDomEdgesx1
import Derived.Test.YtemclhndmcjmmaaPDomEdgesx4
import Derived.Test.YtemclhndmcjmmaaPDomEdgesx5
namespace Go.Proofs.Ytemclhndmcjmmaa.PDomEdges
open Go.RowKit Go.Proofs.YtemclhndmcjmmaaW.PrintWords Go.Proofs.YtemclhndmcjmmaaW.PrintLast Go.Proofs.YtemclhndmcjmmaaW.PrintMore
attribute [local go_sem] max2_int min2_int max_two min_two max_three min_three max_four min_four   -- for this text's walks alone
set_option linter.unusedVariables false
set_option linter.unusedSimpArgs false

/-! ### hallmarkref04_Ints: function 17 -/
def hallmarkref04_Ints.l0 : Nat → List Int → List Int → Int → Option (Bool)
  | 0, _, _, _ => none
  | k + 1, x0, x1, x5 => if x5 < (x0.length : Int) then (if 0 ≤ x5 then (if x5 < (x1.length : Int) then (if (rd x0 x5) = (rd x1 x5) then (hallmarkref04_Ints.l0 k x0 x1 (wrap64 (x5 + 1))) else (some false)) else (none)) else (none)) else (some true)
def hallmarkref04_Ints.f (k : Nat) (l0 : List Int) (l1 : List Int) : Option (Bool) := if (l0.length : Int) = (l1.length : Int) then (hallmarkref04_Ints.l0 k l0 l1 0) else (some false)
theorem hallmarkref04_Ints.mono_l : ∀ k, (∀ y0 y1 y2, LeO (hallmarkref04_Ints.l0 k y0 y1 y2) (hallmarkref04_Ints.l0 (k + 1) y0 y1 y2))
  | 0 => fun _ _ _ r h => by simp [hallmarkref04_Ints.l0] at h
  | k + 1 => by
    have ih0 := hallmarkref04_Ints.mono_l k
    · intro y0 y1 y2
      unfold hallmarkref04_Ints.l0
      repeat' first
      | (with_reducible exact ih0 _ _ _)
      | (with_reducible exact LeO.refl _)
      | (with_reducible exact LeO.none _)
      | (with_reducible refine LeO.ite ?_ ?_)
      | (with_reducible refine LeO.bind ?_ (fun _ => ?_))
      | exact ih0 _ _ _
      | exact LeO.none _
      | refine LeO.ite ?_ ?_
      | refine LeO.bind ?_ (fun _ => ?_)
theorem hallmarkref04_Ints.mono : ∀ a0 a1 k, LeO (hallmarkref04_Ints.f k a0 a1) (hallmarkref04_Ints.f (k + 1) a0 a1) := by
  intro a0 a1 k
  have ih0 := hallmarkref04_Ints.mono_l k
  unfold hallmarkref04_Ints.f
  repeat' first
      | (with_reducible exact ih0 _ _ _)
      | (with_reducible exact LeO.refl _)
      | (with_reducible exact LeO.none _)
      | (with_reducible refine LeO.ite ?_ ?_)
      | (with_reducible refine LeO.bind ?_ (fun _ => ?_))
      | exact ih0 _ _ _
      | exact LeO.none _
      | refine LeO.ite ?_ ?_
      | refine LeO.bind ?_ (fun _ => ?_)
set_option maxHeartbeats 8000000 in
set_option maxRecDepth 100000 in
theorem hallmarkref04_Ints.calls (k : Nat) (A0 : Option Addr) (c0 : Nat) (l0 : List Int) (A1 : Option Addr) (c1 : Nat) (l1 : List Int) (r : Bool) (w : World) (hr0 : Kd.C (Kd.int .i64) w A0 l0.length l0) (hc0 : l0.length ≤ c0) (hr1 : Kd.C (Kd.int .i64) w A1 l1.length l1) (hc1 : l1.length ≤ c1) (h : hallmarkref04_Ints.f k l0 l1 = some r) :
    Calls Try.prog 17 #[.slice A0 l0.length c0, .slice A1 l1.length c1] w fun e w' => e = .returned (.bool r) ∧ Drawn0 w w' := by
  have HR0 := Aside0.mk hr0
  have HC0 := Aside0.mk hc0
  clear hr0 hc0
  have HR1 := Aside0.mk hr1
  have HC1 := Aside0.mk hc1
  clear hr1 hc1
  have H : (if (l0.length : Int) = (l1.length : Int) then (hallmarkref04_Ints.l0 k l0 l1 0) else (some false)) = some r := h
  clear h
  by_cases c3 : (l0.length : Int) = (l1.length : Int)
  · rw [if_pos c3] at H
    have c3b0 : ((l0.length : Int) == (l1.length : Int)) = true := beq_iff_eq.mpr c3
    have c3b1 : ((l0.length : Int) != (l1.length : Int)) = false := bne_eq_false_iff_eq.mpr c3
    have c3b2 : (l0.length == l1.length) = true := by first | simpa using c3 | (simp at c3 ⊢; omega)
    clear c3
    have H' := Aside0.mk H
    clear H
    go_enter Try.func17, Try.ntmps17
    go_wp2
    repeat (go_quiet (fail); try go_wp2)
    go_loopg [5] k (fun kq v5 w' => ∃ (x5_1 : Int), v5 = .int .i64 x5_1 ∧ Aside0 (hallmarkref04_Ints.l0 kq l0 l1 x5_1 = some r) ∧ Aside0 (kq ≤ k) ∧ Drawn0 w w')
    case atStart => exact ⟨(0), (by first | rfl | (simp; done) | (simp [*]; done) | (simp [*, wrap64]; done) | (simp [*]; unfold wrap64; omega)), H', ⟨Nat.le_refl _⟩, by repeat (first | exact Drawn0.refl _ | apply Drawn0.step)⟩
    case round =>
      clear H'
      try clear c1
      try clear p2
      try clear c3
      try clear c3b0
      try clear c3b1
      try clear c3b2
      obtain ⟨x5_1, rfl, HA, HK1, ⟨m1, rfl⟩⟩ := hrel
      cases gk with
      | zero => exact absurd HA.out (by simp [hallmarkref04_Ints.l0])
      | succ k1 =>
        have H := HA.out
        clear HA
        simp only [hallmarkref04_Ints.l0] at H
        by_cases c4 : x5_1 < (l0.length : Int)
        · rw [if_pos c4] at H
          have c4b0 : decide (x5_1 < (l0.length : Int)) = true := decide_eq_true c4
          clear c4
          by_cases c5 : 0 ≤ x5_1
          · rw [if_pos c5] at H
            have c5b0 : decide (0 ≤ x5_1) = true := decide_eq_true c5
            clear c5
            by_cases c6 : x5_1 < (l1.length : Int)
            · rw [if_pos c6] at H
              have c6b0 : decide (x5_1 < (l1.length : Int)) = true := decide_eq_true c6
              clear c6
              by_cases c7 : (rd l0 x5_1) = (rd l1 x5_1)
              · rw [if_pos c7] at H
                have c7b0 : ((rd l0 x5_1) == (rd l1 x5_1)) = true := beq_iff_eq.mpr c7
                have c7b1 : ((rd l0 x5_1) != (rd l1 x5_1)) = false := bne_eq_false_iff_eq.mpr c7
                clear c7
                have H' := Aside0.mk H
                clear H
                have p135 : 0 ≤ (x5_1 : Int) := of_decide_eq_true (by first | (with_reducible assumption) | assumption)
                have q135 : x5_1 < (l0.length : Int) := of_decide_eq_true (by first | (with_reducible assumption) | assumption)
                obtain ⟨ad135, e135, hx135_0⟩ := Kd.at_int HR0.out x5_1 p135 q135
                cases e135
                replace p135 := eq_true p135
                replace q135 := eq_true q135
                have p136 : 0 ≤ (x5_1 : Int) := of_decide_eq_true (by first | (with_reducible assumption) | assumption)
                have q136 : x5_1 < (l1.length : Int) := of_decide_eq_true (by first | (with_reducible assumption) | assumption)
                obtain ⟨ad136, e136, hx136_0⟩ := Kd.at_int HR1.out x5_1 p136 q136
                cases e136
                replace p136 := eq_true p136
                replace q136 := eq_true q136
                go_wp2
                repeat (go_quiet (fail); try go_wp2)
                go_roundg k1
                case measure => have := HK1.out; omega
                case rel => exact ⟨(wrap64 (x5_1 + 1)), (by first | rfl | (simp; done) | (simp [*]; done) | (simp [*, wrap64]; done) | (simp [*]; unfold wrap64; omega)), H', ⟨by have := HK1.out; omega⟩, by repeat (first | exact Drawn0.refl _ | apply Drawn0.step)⟩
              · rw [if_neg c7] at H
                have c7b0 : ((rd l0 x5_1) == (rd l1 x5_1)) = false := beq_eq_false_iff_ne.mpr c7
                have c7b1 : ((rd l0 x5_1) != (rd l1 x5_1)) = true := bne_iff_ne.mpr c7
                obtain rfl := Option.some.inj H
                have p135 : 0 ≤ (x5_1 : Int) := of_decide_eq_true (by first | (with_reducible assumption) | assumption)
                have q135 : x5_1 < (l0.length : Int) := of_decide_eq_true (by first | (with_reducible assumption) | assumption)
                obtain ⟨ad135, e135, hx135_0⟩ := Kd.at_int HR0.out x5_1 p135 q135
                cases e135
                replace p135 := eq_true p135
                replace q135 := eq_true q135
                have p136 : 0 ≤ (x5_1 : Int) := of_decide_eq_true (by first | (with_reducible assumption) | assumption)
                have q136 : x5_1 < (l1.length : Int) := of_decide_eq_true (by first | (with_reducible assumption) | assumption)
                obtain ⟨ad136, e136, hx136_0⟩ := Kd.at_int HR1.out x5_1 p136 q136
                cases e136
                replace p136 := eq_true p136
                replace q136 := eq_true q136
                go_wp2
                repeat (go_quiet (fail); try go_wp2)
                go_ret
                exact ⟨by first | rfl | (simp; done) | (simp [*]; done), by repeat (first | exact Drawn0.refl _ | apply Drawn0.step)⟩
            · rw [if_neg c6] at H
              exact absurd H (by simp)
          · rw [if_neg c5] at H
            exact absurd H (by simp)
        · rw [if_neg c4] at H
          have c4b0 : decide (x5_1 < (l0.length : Int)) = false := decide_eq_false c4
          clear c4
          obtain rfl := Option.some.inj H
          go_wp2
          repeat (go_quiet (fail); try go_wp2)
          go_ret
          exact ⟨by first | rfl | (simp; done) | (simp [*]; done), by repeat (first | exact Drawn0.refl _ | apply Drawn0.step)⟩
  · rw [if_neg c3] at H
    have c3b0 : ((l0.length : Int) == (l1.length : Int)) = false := beq_eq_false_iff_ne.mpr c3
    have c3b1 : ((l0.length : Int) != (l1.length : Int)) = true := bne_iff_ne.mpr c3
    have c3b2 : (l0.length == l1.length) = false := by first | simpa using c3 | (simp at c3 ⊢; omega)
    obtain rfl := Option.some.inj H
    go_enter Try.func17, Try.ntmps17
    go_wp2
    repeat (go_quiet (fail); try go_wp2)
    go_ret
    exact ⟨by first | rfl | (simp; done) | (simp [*]; done), by repeat (first | exact Drawn0.refl _ | apply Drawn0.step)⟩

/-! ### hallmarklaw08_lives: function 14 -/
def hallmarklaw08_lives.f (k : Nat)  : Option (Bool) := (some (([(⟨([] : List Int), ([] : List (S98)), (⟨0, 0, 1, 0, ([] : List Int), ([] : List Int)⟩ : S51)⟩ : S54), (⟨([] : List Int), ([] : List (S98)), (⟨1, 0, 1, 2, ([] : List Int), ([] : List Int)⟩ : S51)⟩ : S54), (⟨([] : List Int), ([] : List (S98)), (⟨2, 0, 0, 0, ([] : List Int), ([] : List Int)⟩ : S51)⟩ : S54)] : List (S54)) : List (S54))).bind fun y137 => ((dom_Loops.f k 0 y137).bind fun t141 => ((dom_Above.f k 0 y137).bind fun t144 => ((hallmarkref04_Ints.f k t144 (([(-1), 0, 1] : List Int))).bind fun t150 => (if t150 = true then (if (t141.length : Int) = 1 then (if 0 < (t141.length : Int) then (if ((rd_T35 t141 0).f0) = 1 then ((hallmarkref04_Ints.f k ((rd_T35 t141 0).f1) (([1] : List Int))).bind fun t156 => (some t156)) else (some false)) else (none)) else (some false)) else (some false)))))
theorem hallmarklaw08_lives.mono : ∀ k, LeO (hallmarklaw08_lives.f k ) (hallmarklaw08_lives.f (k + 1) ) := by
  intro  k
  unfold hallmarklaw08_lives.f
  repeat' first
      | (with_reducible exact dom_Above.mono _ _ _)
      | (with_reducible exact dom_Loops.mono _ _ _)
      | (with_reducible exact hallmarkref04_Ints.mono _ _ _)
      | (with_reducible exact LeO.refl _)
      | (with_reducible exact LeO.none _)
      | (with_reducible refine LeO.ite ?_ ?_)
      | (with_reducible refine LeO.bind ?_ (fun _ => ?_))
      | exact dom_Above.mono _ _ _
      | exact dom_Loops.mono _ _ _
      | exact hallmarkref04_Ints.mono _ _ _
      | exact LeO.none _
      | refine LeO.ite ?_ ?_
      | refine LeO.bind ?_ (fun _ => ?_)
set_option maxHeartbeats 8000000 in
set_option maxRecDepth 100000 in
theorem hallmarklaw08_lives.calls (k : Nat)  (r : Bool) (w : World) (h : hallmarklaw08_lives.f k  = some r) :
    Calls Try.prog 14 #[] w fun e w' => e = .returned (.bool r) ∧ Below w.heap.size w w' := by
  have hu51 := Try.underlying51
  have hu54 := Try.underlying54
  have hu24 := Try.underlying24
  have HB := Aside0.mk (Below.refl w.heap.size w)
  have H : ((some (([(⟨([] : List Int), ([] : List (S98)), (⟨0, 0, 1, 0, ([] : List Int), ([] : List Int)⟩ : S51)⟩ : S54), (⟨([] : List Int), ([] : List (S98)), (⟨1, 0, 1, 2, ([] : List Int), ([] : List Int)⟩ : S51)⟩ : S54), (⟨([] : List Int), ([] : List (S98)), (⟨2, 0, 0, 0, ([] : List Int), ([] : List Int)⟩ : S51)⟩ : S54)] : List (S54)) : List (S54))).bind fun y137 => ((dom_Loops.f k 0 y137).bind fun t141 => ((dom_Above.f k 0 y137).bind fun t144 => ((hallmarkref04_Ints.f k t144 (([(-1), 0, 1] : List Int))).bind fun t150 => (if t150 = true then (if (t141.length : Int) = 1 then (if 0 < (t141.length : Int) then (if ((rd_T35 t141 0).f0) = 1 then ((hallmarkref04_Ints.f k ((rd_T35 t141 0).f1) (([1] : List Int))).bind fun t156 => (some t156)) else (some false)) else (none)) else (some false)) else (some false)))))) = some r := h
  clear h
  obtain ⟨y137, hy137⟩ : ∃ y_ : List (S54), y_ = (([(⟨([] : List Int), ([] : List (S98)), (⟨0, 0, 1, 0, ([] : List Int), ([] : List Int)⟩ : S51)⟩ : S54), (⟨([] : List Int), ([] : List (S98)), (⟨1, 0, 1, 2, ([] : List Int), ([] : List Int)⟩ : S51)⟩ : S54), (⟨([] : List Int), ([] : List (S98)), (⟨2, 0, 0, 0, ([] : List Int), ([] : List Int)⟩ : S51)⟩ : S54)] : List (S54))) := ⟨_, rfl⟩
  replace H : ((dom_Loops.f k 0 y137).bind fun t141 => ((dom_Above.f k 0 y137).bind fun t144 => ((hallmarkref04_Ints.f k t144 (([(-1), 0, 1] : List Int))).bind fun t150 => (if t150 = true then (if (t141.length : Int) = 1 then (if 0 < (t141.length : Int) then (if ((rd_T35 t141 0).f0) = 1 then ((hallmarkref04_Ints.f k ((rd_T35 t141 0).f1) (([1] : List Int))).bind fun t156 => (some t156)) else (some false)) else (none)) else (some false)) else (some false))))) = some r := by first | (rw [hy137]; with_reducible exact H) | (have H2_ := (Option.bind_some _ _).symm.trans H; rw [hy137]; with_reducible exact H2_) | (have H2_ := (Option.bind_some _ _).symm.trans H; with_reducible exact H2_) | with_reducible exact H | (rw [hy137]; exact H) | exact H
  have Ny137 := Aside0.mk hy137
  clear hy137
  replace H := Option.bind_eq_some_iff.mp H
  obtain ⟨t141, A10, H⟩ := H
  replace H : ((dom_Above.f k 0 y137).bind fun t144 => ((hallmarkref04_Ints.f k t144 (([(-1), 0, 1] : List Int))).bind fun t150 => (if t150 = true then (if (t141.length : Int) = 1 then (if 0 < (t141.length : Int) then (if ((rd_T35 t141 0).f0) = 1 then ((hallmarkref04_Ints.f k ((rd_T35 t141 0).f1) (([1] : List Int))).bind fun t156 => (some t156)) else (some false)) else (none)) else (some false)) else (some false)))) = some r := H
  have A1 := Aside0.mk A10
  clear A10
  replace H := Option.bind_eq_some_iff.mp H
  obtain ⟨t144, A20, H⟩ := H
  replace H : ((hallmarkref04_Ints.f k t144 (([(-1), 0, 1] : List Int))).bind fun t150 => (if t150 = true then (if (t141.length : Int) = 1 then (if 0 < (t141.length : Int) then (if ((rd_T35 t141 0).f0) = 1 then ((hallmarkref04_Ints.f k ((rd_T35 t141 0).f1) (([1] : List Int))).bind fun t156 => (some t156)) else (some false)) else (none)) else (some false)) else (some false))) = some r := H
  have A2 := Aside0.mk A20
  clear A20
  obtain ⟨y147, hy147⟩ : ∃ y_ : List Int, y_ = (([(-1), 0, 1] : List Int)) := ⟨_, rfl⟩
  replace H : ((hallmarkref04_Ints.f k t144 y147).bind fun t150 => (if t150 = true then (if (t141.length : Int) = 1 then (if 0 < (t141.length : Int) then (if ((rd_T35 t141 0).f0) = 1 then ((hallmarkref04_Ints.f k ((rd_T35 t141 0).f1) (([1] : List Int))).bind fun t156 => (some t156)) else (some false)) else (none)) else (some false)) else (some false))) = some r := by first | (rw [hy147]; with_reducible exact H) | (have H2_ := (Option.bind_some _ _).symm.trans H; rw [hy147]; with_reducible exact H2_) | (have H2_ := (Option.bind_some _ _).symm.trans H; with_reducible exact H2_) | with_reducible exact H | (rw [hy147]; exact H) | exact H
  have Ny147 := Aside0.mk hy147
  clear hy147
  replace H := Option.bind_eq_some_iff.mp H
  obtain ⟨t150, A30, H⟩ := H
  replace H : (if t150 = true then (if (t141.length : Int) = 1 then (if 0 < (t141.length : Int) then (if ((rd_T35 t141 0).f0) = 1 then ((hallmarkref04_Ints.f k ((rd_T35 t141 0).f1) (([1] : List Int))).bind fun t156 => (some t156)) else (some false)) else (none)) else (some false)) else (some false)) = some r := H
  have A3 := Aside0.mk A30
  clear A30
  by_cases c4 : t150 = true
  · subst c4
    have H1 : (if (t141.length : Int) = 1 then (if 0 < (t141.length : Int) then (if ((rd_T35 t141 0).f0) = 1 then ((hallmarkref04_Ints.f k ((rd_T35 t141 0).f1) (([1] : List Int))).bind fun t156 => (some t156)) else (some false)) else (none)) else (some false)) = some r := by rw [if_pos rfl] at H; exact H
    clear H
    have H := H1
    clear H1
    by_cases c5 : (t141.length : Int) = 1
    · rw [if_pos c5] at H
      have c5b0 : ((t141.length : Int) == 1) = true := beq_iff_eq.mpr c5
      have c5b1 : ((t141.length : Int) != 1) = false := bne_eq_false_iff_eq.mpr c5
      clear c5
      by_cases c6 : 0 < (t141.length : Int)
      · rw [if_pos c6] at H
        have c6b0 : decide (0 < (t141.length : Int)) = true := decide_eq_true c6
        have c6b1 : decide (0 < t141.length) = true := decide_eq_true (by omega)
        clear c6
        by_cases c7 : ((rd_T35 t141 0).f0) = 1
        · rw [if_pos c7] at H
          have c7b0 : (((rd_T35 t141 0).f0) == 1) = true := beq_iff_eq.mpr c7
          have c7b1 : (((rd_T35 t141 0).f0) != 1) = false := bne_eq_false_iff_eq.mpr c7
          clear c7
          obtain ⟨y153, hy153⟩ : ∃ y_ : List Int, y_ = (([1] : List Int)) := ⟨_, rfl⟩
          replace H : ((hallmarkref04_Ints.f k ((rd_T35 t141 0).f1) y153).bind fun t156 => (some t156)) = some r := by first | (rw [hy153]; with_reducible exact H) | (have H2_ := (Option.bind_some _ _).symm.trans H; rw [hy153]; with_reducible exact H2_) | (have H2_ := (Option.bind_some _ _).symm.trans H; with_reducible exact H2_) | with_reducible exact H | (rw [hy153]; exact H) | exact H
          have Ny153 := Aside0.mk hy153
          clear hy153
          replace H := Option.bind_eq_some_iff.mp H
          obtain ⟨t156, A80, H⟩ := H
          replace H : (some t156) = some r := H
          have A8 := Aside0.mk A80
          clear A80
          obtain rfl := Option.some.inj H
          go_enter Try.func14, Try.ntmps14
          go_wp2_with (first | ((with_reducible refine gate_dst (N := 9) rfl ?_); (try (refine gate_guard (by rfl) ?_; dsimp only)); refine Kd.R_lit k54 _ 54 ?hg (N := 9) ?hd (xs := ([(⟨([] : List Int), ([] : List (S98)), (⟨0, 0, 1, 0, ([] : List Int), ([] : List Int)⟩ : S51)⟩ : S54), (⟨([] : List Int), ([] : List (S98)), (⟨1, 0, 1, 2, ([] : List Int), ([] : List Int)⟩ : S51)⟩ : S54), (⟨([] : List Int), ([] : List (S98)), (⟨2, 0, 0, 0, ([] : List Int), ([] : List Int)⟩ : S51)⟩ : S54)] : List (S54))) (inner := [.slice none 0 0, .slice none 0 0, .int .i64 0, .int .i64 0, .int .i64 1, .int .i64 0, .slice none 0 0, .slice none 0 0, .slice none 0 0, .slice none 0 0, .int .i64 1, .int .i64 0, .int .i64 1, .int .i64 2, .slice none 0 0, .slice none 0 0, .slice none 0 0, .slice none 0 0, .int .i64 2, .int .i64 0, .int .i64 0, .int .i64 0, .slice none 0 0, .slice none 0 0]) (ok := fun _ => True) (okp := fun _ => True) ?hr ?hp (fun _ hk => hk) trivial (Below.refl _ _) (Nat.le_refl _) (by simp) ?_; (case hd => rfl); (case hg => rfl); (case hr => first | (go_simp; done) | (go_simp; rfl)); (case hp => exact (Reps.c8 (show Kd.M k54 _ _ _ (⟨([] : List Int), ([] : List (S98)), (⟨0, 0, 1, 0, ([] : List Int), ([] : List Int)⟩ : S51)⟩ : S54) [.slice none 0 0, .slice none 0 0, .int .i64 0, .int .i64 0, .int .i64 1, .int .i64 0, .slice none 0 0, .slice none 0 0] from (k54_mkM _ _ _ (⟨([] : List Int), ([] : List (S98)), (⟨0, 0, 1, 0, ([] : List Int), ([] : List Int)⟩ : S51)⟩ : S54) (Kd.R_nil _ _ _ _ _) (Kd.R_nil _ _ _ _ _) (Kd.R_nil _ _ _ _ _) (Kd.R_nil _ _ _ _ _))) (Reps.c8 (show Kd.M k54 _ _ _ (⟨([] : List Int), ([] : List (S98)), (⟨1, 0, 1, 2, ([] : List Int), ([] : List Int)⟩ : S51)⟩ : S54) [.slice none 0 0, .slice none 0 0, .int .i64 1, .int .i64 0, .int .i64 1, .int .i64 2, .slice none 0 0, .slice none 0 0] from (k54_mkM _ _ _ (⟨([] : List Int), ([] : List (S98)), (⟨1, 0, 1, 2, ([] : List Int), ([] : List Int)⟩ : S51)⟩ : S54) (Kd.R_nil _ _ _ _ _) (Kd.R_nil _ _ _ _ _) (Kd.R_nil _ _ _ _ _) (Kd.R_nil _ _ _ _ _))) (Reps.c8 (show Kd.M k54 _ _ _ (⟨([] : List Int), ([] : List (S98)), (⟨2, 0, 0, 0, ([] : List Int), ([] : List Int)⟩ : S51)⟩ : S54) [.slice none 0 0, .slice none 0 0, .int .i64 2, .int .i64 0, .int .i64 0, .int .i64 0, .slice none 0 0, .slice none 0 0] from (k54_mkM _ _ _ (⟨([] : List Int), ([] : List (S98)), (⟨2, 0, 0, 0, ([] : List Int), ([] : List Int)⟩ : S51)⟩ : S54) (Kd.R_nil _ _ _ _ _) (Kd.R_nil _ _ _ _ _) (Kd.R_nil _ _ _ _ _) (Kd.R_nil _ _ _ _ _))) (Reps.none _ _))))); intro v138 w9 ho10 hb hg_ hnew_; clear hg_ hnew_; (first | rw [← Ny137.out] at ho10 | (simp only [Int.reduceToNat] at ho10; rw [← Ny137.out] at ho10)); have n0_ := Aside0.mk (Kd.R_lower ho10 (below_size (by repeat (first | (with_reducible first | exact HB.out | apply below_alloc | apply pw_below_drewN | apply below_drew1) | exact HB.out)))); have n1_ := Aside0.mk (below_step (by repeat (first | (with_reducible first | exact HB.out | apply below_alloc | apply pw_below_drewN | apply below_drew1) | exact HB.out)) hb); clear HB; have HO139 := n0_; have HB := n1_; clear n0_ n1_; clear hb ho10; obtain ⟨Ao11, co11, eo11⟩ := Kd.R_slice HO139.out; subst eo11) | ((with_reducible refine gate_dst (N := 1) rfl ?_); (try (refine gate_guard (by rfl) ?_; dsimp only)); refine box_event ?hg (N := 1) ?hd (cs := #[.int .i64 0, .slice none 0 0]) (t := 24) ?hr ?_; (case hd => rfl); (case hg => rfl); (case hr => first | (go_simp; done) | (go_simp; rfl)); intro gb140 hg w12 hbox hb; have n0_ := Aside0.mk (Kd.R_below (by (with_reducible repeat (first | apply Kd.R_alloc | apply Kd.R_drewN | apply Kd.R_drew)); exact HO139.out) hb); have n1_ := Aside0.mk (below_step (by repeat (first | (with_reducible first | exact HB.out | apply below_alloc | apply pw_below_drewN | apply below_drew1) | exact HB.out)) hb); have n2_ := Aside0.mk (hbox); have n3_ := Aside0.mk ((by rw [hg]; exact (below_size (by repeat (first | (with_reducible first | exact HB.out | apply below_alloc | apply pw_below_drewN | apply below_drew1) | exact HB.out))) : w.heap.size ≤ gb140)); have n4_ := Aside0.mk ((by rw [hg]; exact (below_size (by repeat (first | (with_reducible first | exact HB.out | apply below_alloc | apply pw_below_drewN | apply below_drew1) | exact HB.out))) : w.heap.size ≤ gb140)); clear HO139; clear HB; have HO139 := n0_; have HB := n1_; have BK140 := n2_; have GW140 := n3_; have GE140 := n4_; clear n0_ n1_ n2_ n3_ n4_; clear hb hbox hg; have hcz13_0 : w12.cell? ⟨gb140, 0, none⟩ = some (.int .i64 0) := (blk_cell BK140.out 0).trans rfl; have hcz13_1 : w12.cell? ⟨gb140, 1, none⟩ = some (.slice none 0 0) := (blk_cell BK140.out 1).trans rfl; have hfz13_0 := blk_frozen BK140.out 0; have hfz13_1 := blk_frozen BK140.out 1) | ((with_reducible refine gate_callee (f := 15) rfl ?_); refine goesL_ (some 12) rfl rfl Try.func15 (by kernel_rfl) rfl #[.agg #[.int .i64 0, .slice Ao11 y137.length co11]] rfl (by (try simp only [List.map_toArray, List.map_cons, List.map_nil]); first | done | rfl | (simp only [List.length_drop, List.length_take]; rfl)) ?_; (with_reducible refine (dom_Loops.calls k 0 _ _ y137 t141 _ ?side1 ?side2 A1.out).mono ?_); (case side1 => refine (Kd.R_reads' (e := 54) (base := w.heap.size) (ok := fun k_ => True) (n := y137.length) (c := co11) ?_).2.2; exact (by (with_reducible repeat (first | apply Kd.R_alloc | apply Kd.R_drewN | apply Kd.R_drew)); exact (Kd.R_mono (Kd.R_far (p := ⟨gb140, 1, none⟩) (Kd.R_far (p := ⟨gb140, 0, none⟩) (Kd.R_types HO139.out BK140.out (by decide)) (fun _ hk => hk.2) (.int .i64 0)) (fun _ hk => hk.2) (.slice Ao11 y137.length co11)) (fun _ h_ => h_.1)))); (case side2 => exact (Kd.R_reads' HO139.out).2.1); rintro e w14 ⟨v142, rfl, ho0, hb⟩; refine ⟨_, rfl, ?_⟩; have n0_ := Aside0.mk (Kd.R_below (by (with_reducible repeat (first | apply Kd.R_alloc | apply Kd.R_drewN | apply Kd.R_drew)); exact (Kd.R_mono (Kd.R_far (p := ⟨gb140, 1, none⟩) (Kd.R_far (p := ⟨gb140, 0, none⟩) (Kd.R_types HO139.out BK140.out (by decide)) (fun _ hk => hk.2) (.int .i64 0)) (fun _ hk => hk.2) (.slice Ao11 y137.length co11)) (fun _ h_ => h_.1))) hb); have n1_ := Aside0.mk (Kd.S_lower ho0 (below_size (by repeat (first | (with_reducible first | exact HB.out | apply below_alloc | apply pw_below_drewN | apply below_drew1 | refine below_set ?_ GE140.out) | exact HB.out)))); have n2_ := Aside0.mk (blk_below (g := gb140) (o := .cells #[.int .i64 0, .slice Ao11 y137.length co11] 24 (0, 0)) (by (with_reducible repeat (first | refine blk_drewN ?_ _ | refine blk_drew ?_ | refine blk_alloc ?_ _)); refine blk_put (cs := #[.int .i64 0, .slice none 0 0]) ?_ 1 _ rfl; (with_reducible repeat (first | refine blk_drewN ?_ _ | refine blk_drew ?_ | refine blk_alloc ?_ _)); refine blk_put (cs := #[.int .i64 0, .slice none 0 0]) ?_ 0 _ rfl; (with_reducible repeat (first | refine blk_drewN ?_ _ | refine blk_drew ?_ | refine blk_alloc ?_ _)); exact BK140.out) hb); have n3_ := Aside0.mk (below_step (by repeat (first | (with_reducible first | exact HB.out | apply below_alloc | apply pw_below_drewN | apply below_drew1 | refine below_set ?_ GE140.out) | exact HB.out)) hb); clear HO139; clear BK140; clear HB; have HO139 := n0_; have HO143 := n1_; have BK140 := n2_; have HB := n3_; clear n0_ n1_ n2_ n3_; (try clear hb); (try clear hb2); (try clear hk); (try clear hi); (try clear ho0); have hcz15_0 : w14.cell? ⟨gb140, 0, none⟩ = some (.int .i64 0) := (blk_cell BK140.out 0).trans rfl; have hcz15_1 : w14.cell? ⟨gb140, 1, none⟩ = some (.slice Ao11 y137.length co11) := (blk_cell BK140.out 1).trans rfl; have hfz15_0 := blk_frozen BK140.out 0; have hfz15_1 := blk_frozen BK140.out 1) | ((with_reducible refine gate_callee (f := 10) rfl ?_); refine goesL_ (some 14) rfl rfl Try.func10 (by kernel_rfl) rfl #[.agg #[.int .i64 0, .slice Ao11 y137.length co11]] rfl (by (try simp only [List.map_toArray, List.map_cons, List.map_nil]); first | done | rfl | (simp only [List.length_drop, List.length_take]; rfl)) ?_; (with_reducible refine (dom_Above.calls k 0 _ _ y137 t144 _ ?side1 ?side2 A2.out).mono ?_); (case side1 => repeat (first | exact (Kd.R_reads' HO139.out).2.2 | (with_reducible refine Kd.C_alloc ?_ _) | (with_reducible refine Kd.C_drewN ?_ _) | (with_reducible refine Kd.C_drew ?_))); (case side2 => exact (Kd.R_reads' HO139.out).2.1); rintro e w16 ⟨v145, rfl, ho0, hb⟩; refine ⟨_, rfl, ?_⟩; have n0_ := Aside0.mk (Kd.R_elder' (by (with_reducible repeat (first | apply Kd.R_alloc | apply Kd.R_drewN | apply Kd.R_drew)); exact HO139.out) (Kd.R_base ho0) hb); have n1_ := Aside0.mk (Kd.S_elder' (by (with_reducible repeat (first | apply Kd.S_alloc | apply Kd.S_drewN | apply Kd.S_drew)); exact HO143.out) (Kd.R_base ho0) hb); have n2_ := Aside0.mk (Kd.R_lower ho0 (below_size (by repeat (first | (with_reducible first | exact HB.out | apply below_alloc | apply pw_below_drewN | apply below_drew1 | refine below_set ?_ GE140.out) | exact HB.out)))); have n3_ := Aside0.mk (blk_below (g := gb140) (o := .cells #[.int .i64 0, .slice Ao11 y137.length co11] 24 (0, 0)) (by (with_reducible repeat (first | refine blk_drewN ?_ _ | refine blk_drew ?_ | refine blk_alloc ?_ _)); exact BK140.out) hb); have n4_ := Aside0.mk (below_step (by repeat (first | (with_reducible first | exact HB.out | apply below_alloc | apply pw_below_drewN | apply below_drew1 | refine below_set ?_ GE140.out) | exact HB.out)) hb); clear HO139; clear HO143; clear BK140; clear HB; have HO139 := n0_; have HO143 := n1_; have HO146 := n2_; have BK140 := n3_; have HB := n4_; clear n0_ n1_ n2_ n3_ n4_; (try clear hb); (try clear hb2); (try clear hk); (try clear hi); (try clear ho0)) | ((with_reducible refine gate_dst (N := 15) rfl ?_); (try (refine gate_guard (by rfl) ?_; dsimp only)); refine Kd.R_lit (Kd.int .i64) _ 3 ?hg (N := 15) ?hd (xs := ([(-1), 0, 1] : List Int)) (inner := [.int .i64 (-1), .int .i64 0, .int .i64 1]) (ok := fun _ => True) (okp := fun _ => True) ?hr ?hp (fun _ hk => hk) trivial (Below.refl _ _) (Nat.le_refl _) (by simp) ?_; (case hd => rfl); (case hg => rfl); (case hr => first | (go_simp; done) | (go_simp; rfl)); (case hp => exact (Reps.one (show Kd.M (Kd.int .i64) _ _ _ (-1) [.int .i64 (-1)] from rfl) (Reps.one (show Kd.M (Kd.int .i64) _ _ _ 0 [.int .i64 0] from rfl) (Reps.one (show Kd.M (Kd.int .i64) _ _ _ 1 [.int .i64 1] from rfl) (Reps.none _ _))))); intro v148 w17 ho18 hb hg_ hnew_; clear hg_ hnew_; (first | rw [← Ny147.out] at ho18 | (simp only [Int.reduceToNat] at ho18; rw [← Ny147.out] at ho18)); have n0_ := Aside0.mk (Kd.R_elder' (by (with_reducible repeat (first | apply Kd.R_alloc | apply Kd.R_drewN | apply Kd.R_drew)); exact HO139.out) (Kd.R_base ho18) hb); have n1_ := Aside0.mk (Kd.S_elder' (by (with_reducible repeat (first | apply Kd.S_alloc | apply Kd.S_drewN | apply Kd.S_drew)); exact HO143.out) (Kd.R_base ho18) hb); have n2_ := Aside0.mk (Kd.R_elder' (by (with_reducible repeat (first | apply Kd.R_alloc | apply Kd.R_drewN | apply Kd.R_drew)); exact HO146.out) (Kd.R_base ho18) hb); have n3_ := Aside0.mk (Kd.R_lower (Kd.R_new' ho18 (Kd.R_lt (by (with_reducible repeat (first | apply Kd.R_alloc | apply Kd.R_drewN | apply Kd.R_drew)); exact HO146.out))) (below_size (by repeat (first | (with_reducible first | exact HB.out | apply below_alloc | apply pw_below_drewN | apply below_drew1 | refine below_set ?_ GE140.out) | exact HB.out)))); have n4_ := Aside0.mk (blk_below (g := gb140) (o := .cells #[.int .i64 0, .slice Ao11 y137.length co11] 24 (0, 0)) (by (with_reducible repeat (first | refine blk_drewN ?_ _ | refine blk_drew ?_ | refine blk_alloc ?_ _)); exact BK140.out) hb); have n5_ := Aside0.mk (below_step (by repeat (first | (with_reducible first | exact HB.out | apply below_alloc | apply pw_below_drewN | apply below_drew1 | refine below_set ?_ GE140.out) | exact HB.out)) hb); clear HO139; clear HO143; clear HO146; clear BK140; clear HB; have HO139 := n0_; have HO143 := n1_; have HO146 := n2_; have HO149 := n3_; have BK140 := n4_; have HB := n5_; clear n0_ n1_ n2_ n3_ n4_ n5_; clear hb ho18; obtain ⟨Ao19, co19, eo19⟩ := Kd.R_slice HO146.out; subst eo19; obtain ⟨Ao20, co20, eo20⟩ := Kd.R_slice HO149.out; subst eo20) | ((with_reducible refine gate_callee (f := 17) rfl ?_); refine goesL_ (some 16) rfl rfl Try.func17 (by kernel_rfl) rfl #[.slice Ao19 t144.length co19, .slice Ao20 y147.length co20] rfl (by (try simp only [List.map_toArray, List.map_cons, List.map_nil]); first | done | rfl | (simp only [List.length_drop, List.length_take]; rfl)) ?_; (with_reducible refine (hallmarkref04_Ints.calls k _ _ t144 _ _ y147 true _ ?side1 ?side2 ?side3 ?side4 A3.out).mono ?_); (case side1 => repeat (first | exact (Kd.R_reads' HO146.out).2.2 | (with_reducible refine Kd.C_alloc ?_ _) | (with_reducible refine Kd.C_drewN ?_ _) | (with_reducible refine Kd.C_drew ?_))); (case side2 => exact (Kd.R_reads' HO146.out).2.1); (case side3 => repeat (first | exact (Kd.R_reads' HO149.out).2.2 | (with_reducible refine Kd.C_alloc ?_ _) | (with_reducible refine Kd.C_drewN ?_ _) | (with_reducible refine Kd.C_drew ?_))); (case side4 => exact (Kd.R_reads' HO149.out).2.1); rintro e w' ⟨rfl, ⟨nd, rfl⟩⟩; refine ⟨_, rfl, ?_⟩; obtain ⟨Ao21, co21, eo21⟩ := Kd.S_slice HO143.out; subst eo21; have p151 : 0 ≤ (0 : Int) := (by omega); have q151 : 0 < (t141.length : Int) := of_decide_eq_true (by first | (with_reducible assumption) | assumption); obtain ⟨ad151, A151_1, c151_1, e151, hx151_0, hx151_1, hl151_1, hi151_1⟩ := at_T35 (Kd.S_reads' HO143.out).2.2 0 p151 q151; cases e151; obtain ⟨ce151, hce151, hMe151, hcc151⟩ := Kd.S_get HO143.out z35 0 p151 (by first | exact q151 | exact of_decide_eq_true (by first | (with_reducible assumption) | assumption) | (have e_ := (Kd.S_reads' HO143.out).1; omega)); obtain ⟨ve151_1, rfl, ge151_1⟩ := k35_openM hMe151; have hv151_1 := hcc151 1 _ rfl; rw [add_field _ _ 1 (by omega)] at hv151_1; replace hv151_1 := Option.some.inj (hv151_1.symm.trans hx151_1); rw [hv151_1] at ge151_1; have HL151_1 := Aside0.mk (show Kd.R (Kd.int .i64) 3 _ _ _ _ ((rd_T35 t141 0).f1) from ge151_1); clear hv151_1 ge151_1; clear hcc151 hce151; have qi151 : (0 < t141.length) = True := eq_true (by omega); (try rw [show ((0 : Int)).toNat = 0 from rfl] at hx151_0); (try rw [show 0 * 2 = 0 from rfl] at hx151_0); (try rw [Addr.add_zero'] at hx151_0); (try rw [show ((0 : Int)).toNat = 0 from rfl] at hx151_1); (try rw [show 0 * 2 = 0 from rfl] at hx151_1); (try rw [Addr.add_zero'] at hx151_1); have HR151_1 := Aside0.mk hi151_1; have HC151_1 := Aside0.mk hl151_1; clear hi151_1 hl151_1; replace p151 := eq_true p151; replace q151 := eq_true q151; have p152 : 0 ≤ (0 : Int) := (by omega); have q152 : 0 < (t141.length : Int) := of_decide_eq_true (by first | (with_reducible assumption) | assumption); obtain ⟨ad152, A152_1, c152_1, e152, hx152_0, hx152_1, hl152_1, hi152_1⟩ := at_T35 (Kd.S_reads' HO143.out).2.2 0 p152 q152; obtain rfl : ad151 = ad152 := (by injection e152); obtain ⟨ce152, hce152, hMe152, hcc152⟩ := Kd.S_get HO143.out z35 0 p152 (by first | exact q152 | exact of_decide_eq_true (by first | (with_reducible assumption) | assumption) | (have e_ := (Kd.S_reads' HO143.out).1; omega)); obtain ⟨ve152_1, rfl, ge152_1⟩ := k35_openM hMe152; have hv152_1 := hcc152 1 _ rfl; rw [add_field _ _ 1 (by omega)] at hv152_1; replace hv152_1 := Option.some.inj (hv152_1.symm.trans hx152_1); rw [hv152_1] at ge152_1; have HL152_1 := Aside0.mk (show Kd.R (Kd.int .i64) 3 _ _ _ _ ((rd_T35 t141 0).f1) from ge152_1); clear hv152_1 ge152_1; clear hcc152 hce152; have qi152 : (0 < t141.length) = True := eq_true (by omega); (try rw [show ((0 : Int)).toNat = 0 from rfl] at hx152_0); (try rw [show 0 * 2 = 0 from rfl] at hx152_0); (try rw [Addr.add_zero'] at hx152_0); (try rw [show ((0 : Int)).toNat = 0 from rfl] at hx152_1); (try rw [show 0 * 2 = 0 from rfl] at hx152_1); (try rw [Addr.add_zero'] at hx152_1); have HR152_1 := Aside0.mk hi152_1; have HC152_1 := Aside0.mk hl152_1; clear hi152_1 hl152_1; replace p152 := eq_true p152; replace q152 := eq_true q152; have ea_ := Option.some.inj (hx151_1.symm.trans hx152_1); injection ea_ with ea_ en_ ec_; subst ea_; subst ec_; clear en_) | ((with_reducible refine gate_dst (N := 34) rfl ?_); (try (refine gate_guard (by rfl) ?_; dsimp only)); refine Kd.R_lit (Kd.int .i64) _ 3 ?hg (N := 34) ?hd (xs := ([1] : List Int)) (inner := [.int .i64 1]) (ok := fun _ => True) (okp := fun _ => True) ?hr ?hp (fun _ hk => hk) trivial (Below.refl _ _) (Nat.le_refl _) (by simp) ?_; (case hd => rfl); (case hg => rfl); (case hr => first | (go_simp; done) | (go_simp; rfl)); (case hp => exact (Reps.one (show Kd.M (Kd.int .i64) _ _ _ 1 [.int .i64 1] from rfl) (Reps.none _ _))); intro v154 w22 ho23 hb hg_ hnew_; clear hg_ hnew_; (first | rw [← Ny153.out] at ho23 | (simp only [Int.reduceToNat] at ho23; rw [← Ny153.out] at ho23)); have n0_ := Aside0.mk (Kd.R_elder' (by (with_reducible repeat (first | apply Kd.R_alloc | apply Kd.R_drewN | apply Kd.R_drew)); exact HO139.out) (Kd.R_base ho23) hb); have n1_ := Aside0.mk (Kd.S_elder' (by (with_reducible repeat (first | apply Kd.S_alloc | apply Kd.S_drewN | apply Kd.S_drew)); exact HO143.out) (Kd.R_base ho23) hb); have n2_ := Aside0.mk (Kd.R_elder' (by (with_reducible repeat (first | apply Kd.R_alloc | apply Kd.R_drewN | apply Kd.R_drew)); exact HO146.out) (Kd.R_base ho23) hb); have n3_ := Aside0.mk (Kd.R_elder' (by (with_reducible repeat (first | apply Kd.R_alloc | apply Kd.R_drewN | apply Kd.R_drew)); exact HO149.out) (Kd.R_base ho23) hb); have n4_ := Aside0.mk (Kd.R_elder' (by (with_reducible repeat (first | apply Kd.R_alloc | apply Kd.R_drewN | apply Kd.R_drew)); exact HL151_1.out) (Kd.R_base ho23) hb); have n5_ := Aside0.mk (Kd.R_elder' (by (with_reducible repeat (first | apply Kd.R_alloc | apply Kd.R_drewN | apply Kd.R_drew)); exact HL152_1.out) (Kd.R_base ho23) hb); have n6_ := Aside0.mk (Kd.R_lower (Kd.R_new' (Kd.R_new' (Kd.R_new' (Kd.R_new' ho23 (Kd.R_lt (by (with_reducible repeat (first | apply Kd.R_alloc | apply Kd.R_drewN | apply Kd.R_drew)); exact HO146.out))) (Kd.R_lt (by (with_reducible repeat (first | apply Kd.R_alloc | apply Kd.R_drewN | apply Kd.R_drew)); exact HO149.out))) (Kd.R_lt (by (with_reducible repeat (first | apply Kd.R_alloc | apply Kd.R_drewN | apply Kd.R_drew)); exact HL151_1.out))) (Kd.R_lt (by (with_reducible repeat (first | apply Kd.R_alloc | apply Kd.R_drewN | apply Kd.R_drew)); exact HL152_1.out))) (below_size (by repeat (first | (with_reducible first | exact HB.out | apply below_alloc | apply pw_below_drewN | apply below_drew1 | refine below_set ?_ GE140.out) | exact HB.out)))); have n7_ := Aside0.mk (blk_below (g := gb140) (o := .cells #[.int .i64 0, .slice Ao11 y137.length co11] 24 (0, 0)) (by (with_reducible repeat (first | refine blk_drewN ?_ _ | refine blk_drew ?_ | refine blk_alloc ?_ _)); exact BK140.out) hb); have n8_ := Aside0.mk (Kd.C_below (by repeat (first | (with_reducible exact HR151_1.out) | (with_reducible refine Kd.C_alloc ?_ _) | (with_reducible refine Kd.C_drewN ?_ _) | (with_reducible refine Kd.C_drew ?_) | exact HR151_1.out)) hb); have n9_ := Aside0.mk (Kd.C_below (by repeat (first | (with_reducible exact HR152_1.out) | (with_reducible refine Kd.C_alloc ?_ _) | (with_reducible refine Kd.C_drewN ?_ _) | (with_reducible refine Kd.C_drew ?_) | exact HR152_1.out)) hb); have n10_ := Aside0.mk (below_step (by repeat (first | (with_reducible first | exact HB.out | apply below_alloc | apply pw_below_drewN | apply below_drew1 | refine below_set ?_ GE140.out) | exact HB.out)) hb); clear HO139; clear HO143; clear HO146; clear HO149; clear HL151_1; clear HL152_1; clear BK140; clear HR151_1; clear HR152_1; clear HB; have HO139 := n0_; have HO143 := n1_; have HO146 := n2_; have HO149 := n3_; have HL151_1 := n4_; have HL152_1 := n5_; have HO155 := n6_; have BK140 := n7_; have HR151_1 := n8_; have HR152_1 := n9_; have HB := n10_; clear n0_ n1_ n2_ n3_ n4_ n5_ n6_ n7_ n8_ n9_ n10_; clear hb ho23; obtain ⟨Ao24, co24, eo24⟩ := Kd.R_slice HO155.out; subst eo24) | (go_at_call 17; (with_reducible refine (hallmarkref04_Ints.calls k _ _ ((rd_T35 t141 0).f1) _ _ y153 t156 _ ?side1 ?side2 ?side3 ?side4 A8.out).mono ?_); (case side1 => repeat (first | exact (by repeat (first | (with_reducible exact HR152_1.out) | (with_reducible refine Kd.C_alloc ?_ _) | (with_reducible refine Kd.C_drewN ?_ _) | (with_reducible refine Kd.C_drew ?_) | exact HR152_1.out)) | (with_reducible refine Kd.C_alloc ?_ _) | (with_reducible refine Kd.C_drewN ?_ _) | (with_reducible refine Kd.C_drew ?_))); (case side2 => exact HC152_1.out); (case side3 => repeat (first | exact (Kd.R_reads' HO155.out).2.2 | (with_reducible refine Kd.C_alloc ?_ _) | (with_reducible refine Kd.C_drewN ?_ _) | (with_reducible refine Kd.C_drew ?_))); (case side4 => exact (Kd.R_reads' HO155.out).2.1); rintro e w' ⟨rfl, ⟨nd, rfl⟩⟩))
          go_ret
          exact ⟨by first | rfl | (simp [errW_none, errW_some] <;> rfl) | (simp [*, errW_none, errW_some] <;> rfl), by repeat (first | (with_reducible first | exact HB.out | apply below_alloc | apply pw_below_drewN | apply below_drew1 | refine below_set ?_ GE140.out) | exact HB.out)⟩
        · rw [if_neg c7] at H
          have c7b0 : (((rd_T35 t141 0).f0) == 1) = false := beq_eq_false_iff_ne.mpr c7
          have c7b1 : (((rd_T35 t141 0).f0) != 1) = true := bne_iff_ne.mpr c7
          obtain rfl := Option.some.inj H
          go_enter Try.func14, Try.ntmps14
          go_wp2_with (first | ((with_reducible refine gate_dst (N := 9) rfl ?_); (try (refine gate_guard (by rfl) ?_; dsimp only)); refine Kd.R_lit k54 _ 54 ?hg (N := 9) ?hd (xs := ([(⟨([] : List Int), ([] : List (S98)), (⟨0, 0, 1, 0, ([] : List Int), ([] : List Int)⟩ : S51)⟩ : S54), (⟨([] : List Int), ([] : List (S98)), (⟨1, 0, 1, 2, ([] : List Int), ([] : List Int)⟩ : S51)⟩ : S54), (⟨([] : List Int), ([] : List (S98)), (⟨2, 0, 0, 0, ([] : List Int), ([] : List Int)⟩ : S51)⟩ : S54)] : List (S54))) (inner := [.slice none 0 0, .slice none 0 0, .int .i64 0, .int .i64 0, .int .i64 1, .int .i64 0, .slice none 0 0, .slice none 0 0, .slice none 0 0, .slice none 0 0, .int .i64 1, .int .i64 0, .int .i64 1, .int .i64 2, .slice none 0 0, .slice none 0 0, .slice none 0 0, .slice none 0 0, .int .i64 2, .int .i64 0, .int .i64 0, .int .i64 0, .slice none 0 0, .slice none 0 0]) (ok := fun _ => True) (okp := fun _ => True) ?hr ?hp (fun _ hk => hk) trivial (Below.refl _ _) (Nat.le_refl _) (by simp) ?_; (case hd => rfl); (case hg => rfl); (case hr => first | (go_simp; done) | (go_simp; rfl)); (case hp => exact (Reps.c8 (show Kd.M k54 _ _ _ (⟨([] : List Int), ([] : List (S98)), (⟨0, 0, 1, 0, ([] : List Int), ([] : List Int)⟩ : S51)⟩ : S54) [.slice none 0 0, .slice none 0 0, .int .i64 0, .int .i64 0, .int .i64 1, .int .i64 0, .slice none 0 0, .slice none 0 0] from (k54_mkM _ _ _ (⟨([] : List Int), ([] : List (S98)), (⟨0, 0, 1, 0, ([] : List Int), ([] : List Int)⟩ : S51)⟩ : S54) (Kd.R_nil _ _ _ _ _) (Kd.R_nil _ _ _ _ _) (Kd.R_nil _ _ _ _ _) (Kd.R_nil _ _ _ _ _))) (Reps.c8 (show Kd.M k54 _ _ _ (⟨([] : List Int), ([] : List (S98)), (⟨1, 0, 1, 2, ([] : List Int), ([] : List Int)⟩ : S51)⟩ : S54) [.slice none 0 0, .slice none 0 0, .int .i64 1, .int .i64 0, .int .i64 1, .int .i64 2, .slice none 0 0, .slice none 0 0] from (k54_mkM _ _ _ (⟨([] : List Int), ([] : List (S98)), (⟨1, 0, 1, 2, ([] : List Int), ([] : List Int)⟩ : S51)⟩ : S54) (Kd.R_nil _ _ _ _ _) (Kd.R_nil _ _ _ _ _) (Kd.R_nil _ _ _ _ _) (Kd.R_nil _ _ _ _ _))) (Reps.c8 (show Kd.M k54 _ _ _ (⟨([] : List Int), ([] : List (S98)), (⟨2, 0, 0, 0, ([] : List Int), ([] : List Int)⟩ : S51)⟩ : S54) [.slice none 0 0, .slice none 0 0, .int .i64 2, .int .i64 0, .int .i64 0, .int .i64 0, .slice none 0 0, .slice none 0 0] from (k54_mkM _ _ _ (⟨([] : List Int), ([] : List (S98)), (⟨2, 0, 0, 0, ([] : List Int), ([] : List Int)⟩ : S51)⟩ : S54) (Kd.R_nil _ _ _ _ _) (Kd.R_nil _ _ _ _ _) (Kd.R_nil _ _ _ _ _) (Kd.R_nil _ _ _ _ _))) (Reps.none _ _))))); intro v138 w25 ho26 hb hg_ hnew_; clear hg_ hnew_; (first | rw [← Ny137.out] at ho26 | (simp only [Int.reduceToNat] at ho26; rw [← Ny137.out] at ho26)); have n0_ := Aside0.mk (Kd.R_lower ho26 (below_size (by repeat (first | (with_reducible first | exact HB.out | apply below_alloc | apply pw_below_drewN | apply below_drew1) | exact HB.out)))); have n1_ := Aside0.mk (below_step (by repeat (first | (with_reducible first | exact HB.out | apply below_alloc | apply pw_below_drewN | apply below_drew1) | exact HB.out)) hb); clear HB; have HO139 := n0_; have HB := n1_; clear n0_ n1_; clear hb ho26; obtain ⟨Ao27, co27, eo27⟩ := Kd.R_slice HO139.out; subst eo27) | ((with_reducible refine gate_dst (N := 1) rfl ?_); (try (refine gate_guard (by rfl) ?_; dsimp only)); refine box_event ?hg (N := 1) ?hd (cs := #[.int .i64 0, .slice none 0 0]) (t := 24) ?hr ?_; (case hd => rfl); (case hg => rfl); (case hr => first | (go_simp; done) | (go_simp; rfl)); intro gb140 hg w28 hbox hb; have n0_ := Aside0.mk (Kd.R_below (by (with_reducible repeat (first | apply Kd.R_alloc | apply Kd.R_drewN | apply Kd.R_drew)); exact HO139.out) hb); have n1_ := Aside0.mk (below_step (by repeat (first | (with_reducible first | exact HB.out | apply below_alloc | apply pw_below_drewN | apply below_drew1) | exact HB.out)) hb); have n2_ := Aside0.mk (hbox); have n3_ := Aside0.mk ((by rw [hg]; exact (below_size (by repeat (first | (with_reducible first | exact HB.out | apply below_alloc | apply pw_below_drewN | apply below_drew1) | exact HB.out))) : w.heap.size ≤ gb140)); have n4_ := Aside0.mk ((by rw [hg]; exact (below_size (by repeat (first | (with_reducible first | exact HB.out | apply below_alloc | apply pw_below_drewN | apply below_drew1) | exact HB.out))) : w.heap.size ≤ gb140)); clear HO139; clear HB; have HO139 := n0_; have HB := n1_; have BK140 := n2_; have GW140 := n3_; have GE140 := n4_; clear n0_ n1_ n2_ n3_ n4_; clear hb hbox hg; have hcz29_0 : w28.cell? ⟨gb140, 0, none⟩ = some (.int .i64 0) := (blk_cell BK140.out 0).trans rfl; have hcz29_1 : w28.cell? ⟨gb140, 1, none⟩ = some (.slice none 0 0) := (blk_cell BK140.out 1).trans rfl; have hfz29_0 := blk_frozen BK140.out 0; have hfz29_1 := blk_frozen BK140.out 1) | ((with_reducible refine gate_callee (f := 15) rfl ?_); refine goesL_ (some 12) rfl rfl Try.func15 (by kernel_rfl) rfl #[.agg #[.int .i64 0, .slice Ao27 y137.length co27]] rfl (by (try simp only [List.map_toArray, List.map_cons, List.map_nil]); first | done | rfl | (simp only [List.length_drop, List.length_take]; rfl)) ?_; (with_reducible refine (dom_Loops.calls k 0 _ _ y137 t141 _ ?side1 ?side2 A1.out).mono ?_); (case side1 => refine (Kd.R_reads' (e := 54) (base := w.heap.size) (ok := fun k_ => True) (n := y137.length) (c := co27) ?_).2.2; exact (by (with_reducible repeat (first | apply Kd.R_alloc | apply Kd.R_drewN | apply Kd.R_drew)); exact (Kd.R_mono (Kd.R_far (p := ⟨gb140, 1, none⟩) (Kd.R_far (p := ⟨gb140, 0, none⟩) (Kd.R_types HO139.out BK140.out (by decide)) (fun _ hk => hk.2) (.int .i64 0)) (fun _ hk => hk.2) (.slice Ao27 y137.length co27)) (fun _ h_ => h_.1)))); (case side2 => exact (Kd.R_reads' HO139.out).2.1); rintro e w30 ⟨v142, rfl, ho0, hb⟩; refine ⟨_, rfl, ?_⟩; have n0_ := Aside0.mk (Kd.R_below (by (with_reducible repeat (first | apply Kd.R_alloc | apply Kd.R_drewN | apply Kd.R_drew)); exact (Kd.R_mono (Kd.R_far (p := ⟨gb140, 1, none⟩) (Kd.R_far (p := ⟨gb140, 0, none⟩) (Kd.R_types HO139.out BK140.out (by decide)) (fun _ hk => hk.2) (.int .i64 0)) (fun _ hk => hk.2) (.slice Ao27 y137.length co27)) (fun _ h_ => h_.1))) hb); have n1_ := Aside0.mk (Kd.S_lower ho0 (below_size (by repeat (first | (with_reducible first | exact HB.out | apply below_alloc | apply pw_below_drewN | apply below_drew1 | refine below_set ?_ GE140.out) | exact HB.out)))); have n2_ := Aside0.mk (blk_below (g := gb140) (o := .cells #[.int .i64 0, .slice Ao27 y137.length co27] 24 (0, 0)) (by (with_reducible repeat (first | refine blk_drewN ?_ _ | refine blk_drew ?_ | refine blk_alloc ?_ _)); refine blk_put (cs := #[.int .i64 0, .slice none 0 0]) ?_ 1 _ rfl; (with_reducible repeat (first | refine blk_drewN ?_ _ | refine blk_drew ?_ | refine blk_alloc ?_ _)); refine blk_put (cs := #[.int .i64 0, .slice none 0 0]) ?_ 0 _ rfl; (with_reducible repeat (first | refine blk_drewN ?_ _ | refine blk_drew ?_ | refine blk_alloc ?_ _)); exact BK140.out) hb); have n3_ := Aside0.mk (below_step (by repeat (first | (with_reducible first | exact HB.out | apply below_alloc | apply pw_below_drewN | apply below_drew1 | refine below_set ?_ GE140.out) | exact HB.out)) hb); clear HO139; clear BK140; clear HB; have HO139 := n0_; have HO143 := n1_; have BK140 := n2_; have HB := n3_; clear n0_ n1_ n2_ n3_; (try clear hb); (try clear hb2); (try clear hk); (try clear hi); (try clear ho0); have hcz31_0 : w30.cell? ⟨gb140, 0, none⟩ = some (.int .i64 0) := (blk_cell BK140.out 0).trans rfl; have hcz31_1 : w30.cell? ⟨gb140, 1, none⟩ = some (.slice Ao27 y137.length co27) := (blk_cell BK140.out 1).trans rfl; have hfz31_0 := blk_frozen BK140.out 0; have hfz31_1 := blk_frozen BK140.out 1) | ((with_reducible refine gate_callee (f := 10) rfl ?_); refine goesL_ (some 14) rfl rfl Try.func10 (by kernel_rfl) rfl #[.agg #[.int .i64 0, .slice Ao27 y137.length co27]] rfl (by (try simp only [List.map_toArray, List.map_cons, List.map_nil]); first | done | rfl | (simp only [List.length_drop, List.length_take]; rfl)) ?_; (with_reducible refine (dom_Above.calls k 0 _ _ y137 t144 _ ?side1 ?side2 A2.out).mono ?_); (case side1 => repeat (first | exact (Kd.R_reads' HO139.out).2.2 | (with_reducible refine Kd.C_alloc ?_ _) | (with_reducible refine Kd.C_drewN ?_ _) | (with_reducible refine Kd.C_drew ?_))); (case side2 => exact (Kd.R_reads' HO139.out).2.1); rintro e w32 ⟨v145, rfl, ho0, hb⟩; refine ⟨_, rfl, ?_⟩; have n0_ := Aside0.mk (Kd.R_elder' (by (with_reducible repeat (first | apply Kd.R_alloc | apply Kd.R_drewN | apply Kd.R_drew)); exact HO139.out) (Kd.R_base ho0) hb); have n1_ := Aside0.mk (Kd.S_elder' (by (with_reducible repeat (first | apply Kd.S_alloc | apply Kd.S_drewN | apply Kd.S_drew)); exact HO143.out) (Kd.R_base ho0) hb); have n2_ := Aside0.mk (Kd.R_lower ho0 (below_size (by repeat (first | (with_reducible first | exact HB.out | apply below_alloc | apply pw_below_drewN | apply below_drew1 | refine below_set ?_ GE140.out) | exact HB.out)))); have n3_ := Aside0.mk (blk_below (g := gb140) (o := .cells #[.int .i64 0, .slice Ao27 y137.length co27] 24 (0, 0)) (by (with_reducible repeat (first | refine blk_drewN ?_ _ | refine blk_drew ?_ | refine blk_alloc ?_ _)); exact BK140.out) hb); have n4_ := Aside0.mk (below_step (by repeat (first | (with_reducible first | exact HB.out | apply below_alloc | apply pw_below_drewN | apply below_drew1 | refine below_set ?_ GE140.out) | exact HB.out)) hb); clear HO139; clear HO143; clear BK140; clear HB; have HO139 := n0_; have HO143 := n1_; have HO146 := n2_; have BK140 := n3_; have HB := n4_; clear n0_ n1_ n2_ n3_ n4_; (try clear hb); (try clear hb2); (try clear hk); (try clear hi); (try clear ho0)) | ((with_reducible refine gate_dst (N := 15) rfl ?_); (try (refine gate_guard (by rfl) ?_; dsimp only)); refine Kd.R_lit (Kd.int .i64) _ 3 ?hg (N := 15) ?hd (xs := ([(-1), 0, 1] : List Int)) (inner := [.int .i64 (-1), .int .i64 0, .int .i64 1]) (ok := fun _ => True) (okp := fun _ => True) ?hr ?hp (fun _ hk => hk) trivial (Below.refl _ _) (Nat.le_refl _) (by simp) ?_; (case hd => rfl); (case hg => rfl); (case hr => first | (go_simp; done) | (go_simp; rfl)); (case hp => exact (Reps.one (show Kd.M (Kd.int .i64) _ _ _ (-1) [.int .i64 (-1)] from rfl) (Reps.one (show Kd.M (Kd.int .i64) _ _ _ 0 [.int .i64 0] from rfl) (Reps.one (show Kd.M (Kd.int .i64) _ _ _ 1 [.int .i64 1] from rfl) (Reps.none _ _))))); intro v148 w33 ho34 hb hg_ hnew_; clear hg_ hnew_; (first | rw [← Ny147.out] at ho34 | (simp only [Int.reduceToNat] at ho34; rw [← Ny147.out] at ho34)); have n0_ := Aside0.mk (Kd.R_elder' (by (with_reducible repeat (first | apply Kd.R_alloc | apply Kd.R_drewN | apply Kd.R_drew)); exact HO139.out) (Kd.R_base ho34) hb); have n1_ := Aside0.mk (Kd.S_elder' (by (with_reducible repeat (first | apply Kd.S_alloc | apply Kd.S_drewN | apply Kd.S_drew)); exact HO143.out) (Kd.R_base ho34) hb); have n2_ := Aside0.mk (Kd.R_elder' (by (with_reducible repeat (first | apply Kd.R_alloc | apply Kd.R_drewN | apply Kd.R_drew)); exact HO146.out) (Kd.R_base ho34) hb); have n3_ := Aside0.mk (Kd.R_lower (Kd.R_new' ho34 (Kd.R_lt (by (with_reducible repeat (first | apply Kd.R_alloc | apply Kd.R_drewN | apply Kd.R_drew)); exact HO146.out))) (below_size (by repeat (first | (with_reducible first | exact HB.out | apply below_alloc | apply pw_below_drewN | apply below_drew1 | refine below_set ?_ GE140.out) | exact HB.out)))); have n4_ := Aside0.mk (blk_below (g := gb140) (o := .cells #[.int .i64 0, .slice Ao27 y137.length co27] 24 (0, 0)) (by (with_reducible repeat (first | refine blk_drewN ?_ _ | refine blk_drew ?_ | refine blk_alloc ?_ _)); exact BK140.out) hb); have n5_ := Aside0.mk (below_step (by repeat (first | (with_reducible first | exact HB.out | apply below_alloc | apply pw_below_drewN | apply below_drew1 | refine below_set ?_ GE140.out) | exact HB.out)) hb); clear HO139; clear HO143; clear HO146; clear BK140; clear HB; have HO139 := n0_; have HO143 := n1_; have HO146 := n2_; have HO149 := n3_; have BK140 := n4_; have HB := n5_; clear n0_ n1_ n2_ n3_ n4_ n5_; clear hb ho34; obtain ⟨Ao35, co35, eo35⟩ := Kd.R_slice HO146.out; subst eo35; obtain ⟨Ao36, co36, eo36⟩ := Kd.R_slice HO149.out; subst eo36) | ((with_reducible refine gate_callee (f := 17) rfl ?_); refine goesL_ (some 16) rfl rfl Try.func17 (by kernel_rfl) rfl #[.slice Ao35 t144.length co35, .slice Ao36 y147.length co36] rfl (by (try simp only [List.map_toArray, List.map_cons, List.map_nil]); first | done | rfl | (simp only [List.length_drop, List.length_take]; rfl)) ?_; (with_reducible refine (hallmarkref04_Ints.calls k _ _ t144 _ _ y147 true _ ?side1 ?side2 ?side3 ?side4 A3.out).mono ?_); (case side1 => repeat (first | exact (Kd.R_reads' HO146.out).2.2 | (with_reducible refine Kd.C_alloc ?_ _) | (with_reducible refine Kd.C_drewN ?_ _) | (with_reducible refine Kd.C_drew ?_))); (case side2 => exact (Kd.R_reads' HO146.out).2.1); (case side3 => repeat (first | exact (Kd.R_reads' HO149.out).2.2 | (with_reducible refine Kd.C_alloc ?_ _) | (with_reducible refine Kd.C_drewN ?_ _) | (with_reducible refine Kd.C_drew ?_))); (case side4 => exact (Kd.R_reads' HO149.out).2.1); rintro e w' ⟨rfl, ⟨nd, rfl⟩⟩; refine ⟨_, rfl, ?_⟩; obtain ⟨Ao37, co37, eo37⟩ := Kd.S_slice HO143.out; subst eo37; have p151 : 0 ≤ (0 : Int) := (by omega); have q151 : 0 < (t141.length : Int) := of_decide_eq_true (by first | (with_reducible assumption) | assumption); obtain ⟨ad151, A151_1, c151_1, e151, hx151_0, hx151_1, hl151_1, hi151_1⟩ := at_T35 (Kd.S_reads' HO143.out).2.2 0 p151 q151; cases e151; obtain ⟨ce151, hce151, hMe151, hcc151⟩ := Kd.S_get HO143.out z35 0 p151 (by first | exact q151 | exact of_decide_eq_true (by first | (with_reducible assumption) | assumption) | (have e_ := (Kd.S_reads' HO143.out).1; omega)); obtain ⟨ve151_1, rfl, ge151_1⟩ := k35_openM hMe151; have hv151_1 := hcc151 1 _ rfl; rw [add_field _ _ 1 (by omega)] at hv151_1; replace hv151_1 := Option.some.inj (hv151_1.symm.trans hx151_1); rw [hv151_1] at ge151_1; have HL151_1 := Aside0.mk (show Kd.R (Kd.int .i64) 3 _ _ _ _ ((rd_T35 t141 0).f1) from ge151_1); clear hv151_1 ge151_1; clear hcc151 hce151; have qi151 : (0 < t141.length) = True := eq_true (by omega); (try rw [show ((0 : Int)).toNat = 0 from rfl] at hx151_0); (try rw [show 0 * 2 = 0 from rfl] at hx151_0); (try rw [Addr.add_zero'] at hx151_0); (try rw [show ((0 : Int)).toNat = 0 from rfl] at hx151_1); (try rw [show 0 * 2 = 0 from rfl] at hx151_1); (try rw [Addr.add_zero'] at hx151_1); have HR151_1 := Aside0.mk hi151_1; have HC151_1 := Aside0.mk hl151_1; clear hi151_1 hl151_1; replace p151 := eq_true p151; replace q151 := eq_true q151))
          go_ret
          exact ⟨by first | rfl | (simp [errW_none, errW_some] <;> rfl) | (simp [*, errW_none, errW_some] <;> rfl), by repeat (first | (with_reducible first | exact HB.out | apply below_alloc | apply pw_below_drewN | apply below_drew1 | refine below_set ?_ GE140.out) | exact HB.out)⟩
      · rw [if_neg c6] at H
        exact absurd H (by simp)
    · rw [if_neg c5] at H
      have c5b0 : ((t141.length : Int) == 1) = false := beq_eq_false_iff_ne.mpr c5
      have c5b1 : ((t141.length : Int) != 1) = true := bne_iff_ne.mpr c5
      obtain rfl := Option.some.inj H
      go_enter Try.func14, Try.ntmps14
      go_wp2_with (first | ((with_reducible refine gate_dst (N := 9) rfl ?_); (try (refine gate_guard (by rfl) ?_; dsimp only)); refine Kd.R_lit k54 _ 54 ?hg (N := 9) ?hd (xs := ([(⟨([] : List Int), ([] : List (S98)), (⟨0, 0, 1, 0, ([] : List Int), ([] : List Int)⟩ : S51)⟩ : S54), (⟨([] : List Int), ([] : List (S98)), (⟨1, 0, 1, 2, ([] : List Int), ([] : List Int)⟩ : S51)⟩ : S54), (⟨([] : List Int), ([] : List (S98)), (⟨2, 0, 0, 0, ([] : List Int), ([] : List Int)⟩ : S51)⟩ : S54)] : List (S54))) (inner := [.slice none 0 0, .slice none 0 0, .int .i64 0, .int .i64 0, .int .i64 1, .int .i64 0, .slice none 0 0, .slice none 0 0, .slice none 0 0, .slice none 0 0, .int .i64 1, .int .i64 0, .int .i64 1, .int .i64 2, .slice none 0 0, .slice none 0 0, .slice none 0 0, .slice none 0 0, .int .i64 2, .int .i64 0, .int .i64 0, .int .i64 0, .slice none 0 0, .slice none 0 0]) (ok := fun _ => True) (okp := fun _ => True) ?hr ?hp (fun _ hk => hk) trivial (Below.refl _ _) (Nat.le_refl _) (by simp) ?_; (case hd => rfl); (case hg => rfl); (case hr => first | (go_simp; done) | (go_simp; rfl)); (case hp => exact (Reps.c8 (show Kd.M k54 _ _ _ (⟨([] : List Int), ([] : List (S98)), (⟨0, 0, 1, 0, ([] : List Int), ([] : List Int)⟩ : S51)⟩ : S54) [.slice none 0 0, .slice none 0 0, .int .i64 0, .int .i64 0, .int .i64 1, .int .i64 0, .slice none 0 0, .slice none 0 0] from (k54_mkM _ _ _ (⟨([] : List Int), ([] : List (S98)), (⟨0, 0, 1, 0, ([] : List Int), ([] : List Int)⟩ : S51)⟩ : S54) (Kd.R_nil _ _ _ _ _) (Kd.R_nil _ _ _ _ _) (Kd.R_nil _ _ _ _ _) (Kd.R_nil _ _ _ _ _))) (Reps.c8 (show Kd.M k54 _ _ _ (⟨([] : List Int), ([] : List (S98)), (⟨1, 0, 1, 2, ([] : List Int), ([] : List Int)⟩ : S51)⟩ : S54) [.slice none 0 0, .slice none 0 0, .int .i64 1, .int .i64 0, .int .i64 1, .int .i64 2, .slice none 0 0, .slice none 0 0] from (k54_mkM _ _ _ (⟨([] : List Int), ([] : List (S98)), (⟨1, 0, 1, 2, ([] : List Int), ([] : List Int)⟩ : S51)⟩ : S54) (Kd.R_nil _ _ _ _ _) (Kd.R_nil _ _ _ _ _) (Kd.R_nil _ _ _ _ _) (Kd.R_nil _ _ _ _ _))) (Reps.c8 (show Kd.M k54 _ _ _ (⟨([] : List Int), ([] : List (S98)), (⟨2, 0, 0, 0, ([] : List Int), ([] : List Int)⟩ : S51)⟩ : S54) [.slice none 0 0, .slice none 0 0, .int .i64 2, .int .i64 0, .int .i64 0, .int .i64 0, .slice none 0 0, .slice none 0 0] from (k54_mkM _ _ _ (⟨([] : List Int), ([] : List (S98)), (⟨2, 0, 0, 0, ([] : List Int), ([] : List Int)⟩ : S51)⟩ : S54) (Kd.R_nil _ _ _ _ _) (Kd.R_nil _ _ _ _ _) (Kd.R_nil _ _ _ _ _) (Kd.R_nil _ _ _ _ _))) (Reps.none _ _))))); intro v138 w38 ho39 hb hg_ hnew_; clear hg_ hnew_; (first | rw [← Ny137.out] at ho39 | (simp only [Int.reduceToNat] at ho39; rw [← Ny137.out] at ho39)); have n0_ := Aside0.mk (Kd.R_lower ho39 (below_size (by repeat (first | (with_reducible first | exact HB.out | apply below_alloc | apply pw_below_drewN | apply below_drew1) | exact HB.out)))); have n1_ := Aside0.mk (below_step (by repeat (first | (with_reducible first | exact HB.out | apply below_alloc | apply pw_below_drewN | apply below_drew1) | exact HB.out)) hb); clear HB; have HO139 := n0_; have HB := n1_; clear n0_ n1_; clear hb ho39; obtain ⟨Ao40, co40, eo40⟩ := Kd.R_slice HO139.out; subst eo40) | ((with_reducible refine gate_dst (N := 1) rfl ?_); (try (refine gate_guard (by rfl) ?_; dsimp only)); refine box_event ?hg (N := 1) ?hd (cs := #[.int .i64 0, .slice none 0 0]) (t := 24) ?hr ?_; (case hd => rfl); (case hg => rfl); (case hr => first | (go_simp; done) | (go_simp; rfl)); intro gb140 hg w41 hbox hb; have n0_ := Aside0.mk (Kd.R_below (by (with_reducible repeat (first | apply Kd.R_alloc | apply Kd.R_drewN | apply Kd.R_drew)); exact HO139.out) hb); have n1_ := Aside0.mk (below_step (by repeat (first | (with_reducible first | exact HB.out | apply below_alloc | apply pw_below_drewN | apply below_drew1) | exact HB.out)) hb); have n2_ := Aside0.mk (hbox); have n3_ := Aside0.mk ((by rw [hg]; exact (below_size (by repeat (first | (with_reducible first | exact HB.out | apply below_alloc | apply pw_below_drewN | apply below_drew1) | exact HB.out))) : w.heap.size ≤ gb140)); have n4_ := Aside0.mk ((by rw [hg]; exact (below_size (by repeat (first | (with_reducible first | exact HB.out | apply below_alloc | apply pw_below_drewN | apply below_drew1) | exact HB.out))) : w.heap.size ≤ gb140)); clear HO139; clear HB; have HO139 := n0_; have HB := n1_; have BK140 := n2_; have GW140 := n3_; have GE140 := n4_; clear n0_ n1_ n2_ n3_ n4_; clear hb hbox hg; have hcz42_0 : w41.cell? ⟨gb140, 0, none⟩ = some (.int .i64 0) := (blk_cell BK140.out 0).trans rfl; have hcz42_1 : w41.cell? ⟨gb140, 1, none⟩ = some (.slice none 0 0) := (blk_cell BK140.out 1).trans rfl; have hfz42_0 := blk_frozen BK140.out 0; have hfz42_1 := blk_frozen BK140.out 1) | ((with_reducible refine gate_callee (f := 15) rfl ?_); refine goesL_ (some 12) rfl rfl Try.func15 (by kernel_rfl) rfl #[.agg #[.int .i64 0, .slice Ao40 y137.length co40]] rfl (by (try simp only [List.map_toArray, List.map_cons, List.map_nil]); first | done | rfl | (simp only [List.length_drop, List.length_take]; rfl)) ?_; (with_reducible refine (dom_Loops.calls k 0 _ _ y137 t141 _ ?side1 ?side2 A1.out).mono ?_); (case side1 => refine (Kd.R_reads' (e := 54) (base := w.heap.size) (ok := fun k_ => True) (n := y137.length) (c := co40) ?_).2.2; exact (by (with_reducible repeat (first | apply Kd.R_alloc | apply Kd.R_drewN | apply Kd.R_drew)); exact (Kd.R_mono (Kd.R_far (p := ⟨gb140, 1, none⟩) (Kd.R_far (p := ⟨gb140, 0, none⟩) (Kd.R_types HO139.out BK140.out (by decide)) (fun _ hk => hk.2) (.int .i64 0)) (fun _ hk => hk.2) (.slice Ao40 y137.length co40)) (fun _ h_ => h_.1)))); (case side2 => exact (Kd.R_reads' HO139.out).2.1); rintro e w43 ⟨v142, rfl, ho0, hb⟩; refine ⟨_, rfl, ?_⟩; have n0_ := Aside0.mk (Kd.R_below (by (with_reducible repeat (first | apply Kd.R_alloc | apply Kd.R_drewN | apply Kd.R_drew)); exact (Kd.R_mono (Kd.R_far (p := ⟨gb140, 1, none⟩) (Kd.R_far (p := ⟨gb140, 0, none⟩) (Kd.R_types HO139.out BK140.out (by decide)) (fun _ hk => hk.2) (.int .i64 0)) (fun _ hk => hk.2) (.slice Ao40 y137.length co40)) (fun _ h_ => h_.1))) hb); have n1_ := Aside0.mk (Kd.S_lower ho0 (below_size (by repeat (first | (with_reducible first | exact HB.out | apply below_alloc | apply pw_below_drewN | apply below_drew1 | refine below_set ?_ GE140.out) | exact HB.out)))); have n2_ := Aside0.mk (blk_below (g := gb140) (o := .cells #[.int .i64 0, .slice Ao40 y137.length co40] 24 (0, 0)) (by (with_reducible repeat (first | refine blk_drewN ?_ _ | refine blk_drew ?_ | refine blk_alloc ?_ _)); refine blk_put (cs := #[.int .i64 0, .slice none 0 0]) ?_ 1 _ rfl; (with_reducible repeat (first | refine blk_drewN ?_ _ | refine blk_drew ?_ | refine blk_alloc ?_ _)); refine blk_put (cs := #[.int .i64 0, .slice none 0 0]) ?_ 0 _ rfl; (with_reducible repeat (first | refine blk_drewN ?_ _ | refine blk_drew ?_ | refine blk_alloc ?_ _)); exact BK140.out) hb); have n3_ := Aside0.mk (below_step (by repeat (first | (with_reducible first | exact HB.out | apply below_alloc | apply pw_below_drewN | apply below_drew1 | refine below_set ?_ GE140.out) | exact HB.out)) hb); clear HO139; clear BK140; clear HB; have HO139 := n0_; have HO143 := n1_; have BK140 := n2_; have HB := n3_; clear n0_ n1_ n2_ n3_; (try clear hb); (try clear hb2); (try clear hk); (try clear hi); (try clear ho0); have hcz44_0 : w43.cell? ⟨gb140, 0, none⟩ = some (.int .i64 0) := (blk_cell BK140.out 0).trans rfl; have hcz44_1 : w43.cell? ⟨gb140, 1, none⟩ = some (.slice Ao40 y137.length co40) := (blk_cell BK140.out 1).trans rfl; have hfz44_0 := blk_frozen BK140.out 0; have hfz44_1 := blk_frozen BK140.out 1) | ((with_reducible refine gate_callee (f := 10) rfl ?_); refine goesL_ (some 14) rfl rfl Try.func10 (by kernel_rfl) rfl #[.agg #[.int .i64 0, .slice Ao40 y137.length co40]] rfl (by (try simp only [List.map_toArray, List.map_cons, List.map_nil]); first | done | rfl | (simp only [List.length_drop, List.length_take]; rfl)) ?_; (with_reducible refine (dom_Above.calls k 0 _ _ y137 t144 _ ?side1 ?side2 A2.out).mono ?_); (case side1 => repeat (first | exact (Kd.R_reads' HO139.out).2.2 | (with_reducible refine Kd.C_alloc ?_ _) | (with_reducible refine Kd.C_drewN ?_ _) | (with_reducible refine Kd.C_drew ?_))); (case side2 => exact (Kd.R_reads' HO139.out).2.1); rintro e w45 ⟨v145, rfl, ho0, hb⟩; refine ⟨_, rfl, ?_⟩; have n0_ := Aside0.mk (Kd.R_elder' (by (with_reducible repeat (first | apply Kd.R_alloc | apply Kd.R_drewN | apply Kd.R_drew)); exact HO139.out) (Kd.R_base ho0) hb); have n1_ := Aside0.mk (Kd.S_elder' (by (with_reducible repeat (first | apply Kd.S_alloc | apply Kd.S_drewN | apply Kd.S_drew)); exact HO143.out) (Kd.R_base ho0) hb); have n2_ := Aside0.mk (Kd.R_lower ho0 (below_size (by repeat (first | (with_reducible first | exact HB.out | apply below_alloc | apply pw_below_drewN | apply below_drew1 | refine below_set ?_ GE140.out) | exact HB.out)))); have n3_ := Aside0.mk (blk_below (g := gb140) (o := .cells #[.int .i64 0, .slice Ao40 y137.length co40] 24 (0, 0)) (by (with_reducible repeat (first | refine blk_drewN ?_ _ | refine blk_drew ?_ | refine blk_alloc ?_ _)); exact BK140.out) hb); have n4_ := Aside0.mk (below_step (by repeat (first | (with_reducible first | exact HB.out | apply below_alloc | apply pw_below_drewN | apply below_drew1 | refine below_set ?_ GE140.out) | exact HB.out)) hb); clear HO139; clear HO143; clear BK140; clear HB; have HO139 := n0_; have HO143 := n1_; have HO146 := n2_; have BK140 := n3_; have HB := n4_; clear n0_ n1_ n2_ n3_ n4_; (try clear hb); (try clear hb2); (try clear hk); (try clear hi); (try clear ho0)) | ((with_reducible refine gate_dst (N := 15) rfl ?_); (try (refine gate_guard (by rfl) ?_; dsimp only)); refine Kd.R_lit (Kd.int .i64) _ 3 ?hg (N := 15) ?hd (xs := ([(-1), 0, 1] : List Int)) (inner := [.int .i64 (-1), .int .i64 0, .int .i64 1]) (ok := fun _ => True) (okp := fun _ => True) ?hr ?hp (fun _ hk => hk) trivial (Below.refl _ _) (Nat.le_refl _) (by simp) ?_; (case hd => rfl); (case hg => rfl); (case hr => first | (go_simp; done) | (go_simp; rfl)); (case hp => exact (Reps.one (show Kd.M (Kd.int .i64) _ _ _ (-1) [.int .i64 (-1)] from rfl) (Reps.one (show Kd.M (Kd.int .i64) _ _ _ 0 [.int .i64 0] from rfl) (Reps.one (show Kd.M (Kd.int .i64) _ _ _ 1 [.int .i64 1] from rfl) (Reps.none _ _))))); intro v148 w46 ho47 hb hg_ hnew_; clear hg_ hnew_; (first | rw [← Ny147.out] at ho47 | (simp only [Int.reduceToNat] at ho47; rw [← Ny147.out] at ho47)); have n0_ := Aside0.mk (Kd.R_elder' (by (with_reducible repeat (first | apply Kd.R_alloc | apply Kd.R_drewN | apply Kd.R_drew)); exact HO139.out) (Kd.R_base ho47) hb); have n1_ := Aside0.mk (Kd.S_elder' (by (with_reducible repeat (first | apply Kd.S_alloc | apply Kd.S_drewN | apply Kd.S_drew)); exact HO143.out) (Kd.R_base ho47) hb); have n2_ := Aside0.mk (Kd.R_elder' (by (with_reducible repeat (first | apply Kd.R_alloc | apply Kd.R_drewN | apply Kd.R_drew)); exact HO146.out) (Kd.R_base ho47) hb); have n3_ := Aside0.mk (Kd.R_lower (Kd.R_new' ho47 (Kd.R_lt (by (with_reducible repeat (first | apply Kd.R_alloc | apply Kd.R_drewN | apply Kd.R_drew)); exact HO146.out))) (below_size (by repeat (first | (with_reducible first | exact HB.out | apply below_alloc | apply pw_below_drewN | apply below_drew1 | refine below_set ?_ GE140.out) | exact HB.out)))); have n4_ := Aside0.mk (blk_below (g := gb140) (o := .cells #[.int .i64 0, .slice Ao40 y137.length co40] 24 (0, 0)) (by (with_reducible repeat (first | refine blk_drewN ?_ _ | refine blk_drew ?_ | refine blk_alloc ?_ _)); exact BK140.out) hb); have n5_ := Aside0.mk (below_step (by repeat (first | (with_reducible first | exact HB.out | apply below_alloc | apply pw_below_drewN | apply below_drew1 | refine below_set ?_ GE140.out) | exact HB.out)) hb); clear HO139; clear HO143; clear HO146; clear BK140; clear HB; have HO139 := n0_; have HO143 := n1_; have HO146 := n2_; have HO149 := n3_; have BK140 := n4_; have HB := n5_; clear n0_ n1_ n2_ n3_ n4_ n5_; clear hb ho47; obtain ⟨Ao48, co48, eo48⟩ := Kd.R_slice HO146.out; subst eo48; obtain ⟨Ao49, co49, eo49⟩ := Kd.R_slice HO149.out; subst eo49) | ((with_reducible refine gate_callee (f := 17) rfl ?_); refine goesL_ (some 16) rfl rfl Try.func17 (by kernel_rfl) rfl #[.slice Ao48 t144.length co48, .slice Ao49 y147.length co49] rfl (by (try simp only [List.map_toArray, List.map_cons, List.map_nil]); first | done | rfl | (simp only [List.length_drop, List.length_take]; rfl)) ?_; (with_reducible refine (hallmarkref04_Ints.calls k _ _ t144 _ _ y147 true _ ?side1 ?side2 ?side3 ?side4 A3.out).mono ?_); (case side1 => repeat (first | exact (Kd.R_reads' HO146.out).2.2 | (with_reducible refine Kd.C_alloc ?_ _) | (with_reducible refine Kd.C_drewN ?_ _) | (with_reducible refine Kd.C_drew ?_))); (case side2 => exact (Kd.R_reads' HO146.out).2.1); (case side3 => repeat (first | exact (Kd.R_reads' HO149.out).2.2 | (with_reducible refine Kd.C_alloc ?_ _) | (with_reducible refine Kd.C_drewN ?_ _) | (with_reducible refine Kd.C_drew ?_))); (case side4 => exact (Kd.R_reads' HO149.out).2.1); rintro e w' ⟨rfl, ⟨nd, rfl⟩⟩; refine ⟨_, rfl, ?_⟩; obtain ⟨Ao50, co50, eo50⟩ := Kd.S_slice HO143.out; subst eo50))
      go_ret
      exact ⟨by first | rfl | (simp [errW_none, errW_some] <;> rfl) | (simp [*, errW_none, errW_some] <;> rfl), by repeat (first | (with_reducible first | exact HB.out | apply below_alloc | apply pw_below_drewN | apply below_drew1 | refine below_set ?_ GE140.out) | exact HB.out)⟩
  · replace c4 := Bool.eq_false_iff.mpr c4
    subst c4
    have H1 : (some false) = some r := by rw [if_neg (show ¬ (false = true) by decide)] at H; exact H
    clear H
    have H := H1
    clear H1
    obtain rfl := Option.some.inj H
    go_enter Try.func14, Try.ntmps14
    go_wp2_with (first | ((with_reducible refine gate_dst (N := 9) rfl ?_); (try (refine gate_guard (by rfl) ?_; dsimp only)); refine Kd.R_lit k54 _ 54 ?hg (N := 9) ?hd (xs := ([(⟨([] : List Int), ([] : List (S98)), (⟨0, 0, 1, 0, ([] : List Int), ([] : List Int)⟩ : S51)⟩ : S54), (⟨([] : List Int), ([] : List (S98)), (⟨1, 0, 1, 2, ([] : List Int), ([] : List Int)⟩ : S51)⟩ : S54), (⟨([] : List Int), ([] : List (S98)), (⟨2, 0, 0, 0, ([] : List Int), ([] : List Int)⟩ : S51)⟩ : S54)] : List (S54))) (inner := [.slice none 0 0, .slice none 0 0, .int .i64 0, .int .i64 0, .int .i64 1, .int .i64 0, .slice none 0 0, .slice none 0 0, .slice none 0 0, .slice none 0 0, .int .i64 1, .int .i64 0, .int .i64 1, .int .i64 2, .slice none 0 0, .slice none 0 0, .slice none 0 0, .slice none 0 0, .int .i64 2, .int .i64 0, .int .i64 0, .int .i64 0, .slice none 0 0, .slice none 0 0]) (ok := fun _ => True) (okp := fun _ => True) ?hr ?hp (fun _ hk => hk) trivial (Below.refl _ _) (Nat.le_refl _) (by simp) ?_; (case hd => rfl); (case hg => rfl); (case hr => first | (go_simp; done) | (go_simp; rfl)); (case hp => exact (Reps.c8 (show Kd.M k54 _ _ _ (⟨([] : List Int), ([] : List (S98)), (⟨0, 0, 1, 0, ([] : List Int), ([] : List Int)⟩ : S51)⟩ : S54) [.slice none 0 0, .slice none 0 0, .int .i64 0, .int .i64 0, .int .i64 1, .int .i64 0, .slice none 0 0, .slice none 0 0] from (k54_mkM _ _ _ (⟨([] : List Int), ([] : List (S98)), (⟨0, 0, 1, 0, ([] : List Int), ([] : List Int)⟩ : S51)⟩ : S54) (Kd.R_nil _ _ _ _ _) (Kd.R_nil _ _ _ _ _) (Kd.R_nil _ _ _ _ _) (Kd.R_nil _ _ _ _ _))) (Reps.c8 (show Kd.M k54 _ _ _ (⟨([] : List Int), ([] : List (S98)), (⟨1, 0, 1, 2, ([] : List Int), ([] : List Int)⟩ : S51)⟩ : S54) [.slice none 0 0, .slice none 0 0, .int .i64 1, .int .i64 0, .int .i64 1, .int .i64 2, .slice none 0 0, .slice none 0 0] from (k54_mkM _ _ _ (⟨([] : List Int), ([] : List (S98)), (⟨1, 0, 1, 2, ([] : List Int), ([] : List Int)⟩ : S51)⟩ : S54) (Kd.R_nil _ _ _ _ _) (Kd.R_nil _ _ _ _ _) (Kd.R_nil _ _ _ _ _) (Kd.R_nil _ _ _ _ _))) (Reps.c8 (show Kd.M k54 _ _ _ (⟨([] : List Int), ([] : List (S98)), (⟨2, 0, 0, 0, ([] : List Int), ([] : List Int)⟩ : S51)⟩ : S54) [.slice none 0 0, .slice none 0 0, .int .i64 2, .int .i64 0, .int .i64 0, .int .i64 0, .slice none 0 0, .slice none 0 0] from (k54_mkM _ _ _ (⟨([] : List Int), ([] : List (S98)), (⟨2, 0, 0, 0, ([] : List Int), ([] : List Int)⟩ : S51)⟩ : S54) (Kd.R_nil _ _ _ _ _) (Kd.R_nil _ _ _ _ _) (Kd.R_nil _ _ _ _ _) (Kd.R_nil _ _ _ _ _))) (Reps.none _ _))))); intro v138 w51 ho52 hb hg_ hnew_; clear hg_ hnew_; (first | rw [← Ny137.out] at ho52 | (simp only [Int.reduceToNat] at ho52; rw [← Ny137.out] at ho52)); have n0_ := Aside0.mk (Kd.R_lower ho52 (below_size (by repeat (first | (with_reducible first | exact HB.out | apply below_alloc | apply pw_below_drewN | apply below_drew1) | exact HB.out)))); have n1_ := Aside0.mk (below_step (by repeat (first | (with_reducible first | exact HB.out | apply below_alloc | apply pw_below_drewN | apply below_drew1) | exact HB.out)) hb); clear HB; have HO139 := n0_; have HB := n1_; clear n0_ n1_; clear hb ho52; obtain ⟨Ao53, co53, eo53⟩ := Kd.R_slice HO139.out; subst eo53) | ((with_reducible refine gate_dst (N := 1) rfl ?_); (try (refine gate_guard (by rfl) ?_; dsimp only)); refine box_event ?hg (N := 1) ?hd (cs := #[.int .i64 0, .slice none 0 0]) (t := 24) ?hr ?_; (case hd => rfl); (case hg => rfl); (case hr => first | (go_simp; done) | (go_simp; rfl)); intro gb140 hg w54 hbox hb; have n0_ := Aside0.mk (Kd.R_below (by (with_reducible repeat (first | apply Kd.R_alloc | apply Kd.R_drewN | apply Kd.R_drew)); exact HO139.out) hb); have n1_ := Aside0.mk (below_step (by repeat (first | (with_reducible first | exact HB.out | apply below_alloc | apply pw_below_drewN | apply below_drew1) | exact HB.out)) hb); have n2_ := Aside0.mk (hbox); have n3_ := Aside0.mk ((by rw [hg]; exact (below_size (by repeat (first | (with_reducible first | exact HB.out | apply below_alloc | apply pw_below_drewN | apply below_drew1) | exact HB.out))) : w.heap.size ≤ gb140)); have n4_ := Aside0.mk ((by rw [hg]; exact (below_size (by repeat (first | (with_reducible first | exact HB.out | apply below_alloc | apply pw_below_drewN | apply below_drew1) | exact HB.out))) : w.heap.size ≤ gb140)); clear HO139; clear HB; have HO139 := n0_; have HB := n1_; have BK140 := n2_; have GW140 := n3_; have GE140 := n4_; clear n0_ n1_ n2_ n3_ n4_; clear hb hbox hg; have hcz55_0 : w54.cell? ⟨gb140, 0, none⟩ = some (.int .i64 0) := (blk_cell BK140.out 0).trans rfl; have hcz55_1 : w54.cell? ⟨gb140, 1, none⟩ = some (.slice none 0 0) := (blk_cell BK140.out 1).trans rfl; have hfz55_0 := blk_frozen BK140.out 0; have hfz55_1 := blk_frozen BK140.out 1) | ((with_reducible refine gate_callee (f := 15) rfl ?_); refine goesL_ (some 12) rfl rfl Try.func15 (by kernel_rfl) rfl #[.agg #[.int .i64 0, .slice Ao53 y137.length co53]] rfl (by (try simp only [List.map_toArray, List.map_cons, List.map_nil]); first | done | rfl | (simp only [List.length_drop, List.length_take]; rfl)) ?_; (with_reducible refine (dom_Loops.calls k 0 _ _ y137 t141 _ ?side1 ?side2 A1.out).mono ?_); (case side1 => refine (Kd.R_reads' (e := 54) (base := w.heap.size) (ok := fun k_ => True) (n := y137.length) (c := co53) ?_).2.2; exact (by (with_reducible repeat (first | apply Kd.R_alloc | apply Kd.R_drewN | apply Kd.R_drew)); exact (Kd.R_mono (Kd.R_far (p := ⟨gb140, 1, none⟩) (Kd.R_far (p := ⟨gb140, 0, none⟩) (Kd.R_types HO139.out BK140.out (by decide)) (fun _ hk => hk.2) (.int .i64 0)) (fun _ hk => hk.2) (.slice Ao53 y137.length co53)) (fun _ h_ => h_.1)))); (case side2 => exact (Kd.R_reads' HO139.out).2.1); rintro e w56 ⟨v142, rfl, ho0, hb⟩; refine ⟨_, rfl, ?_⟩; have n0_ := Aside0.mk (Kd.R_below (by (with_reducible repeat (first | apply Kd.R_alloc | apply Kd.R_drewN | apply Kd.R_drew)); exact (Kd.R_mono (Kd.R_far (p := ⟨gb140, 1, none⟩) (Kd.R_far (p := ⟨gb140, 0, none⟩) (Kd.R_types HO139.out BK140.out (by decide)) (fun _ hk => hk.2) (.int .i64 0)) (fun _ hk => hk.2) (.slice Ao53 y137.length co53)) (fun _ h_ => h_.1))) hb); have n1_ := Aside0.mk (Kd.S_lower ho0 (below_size (by repeat (first | (with_reducible first | exact HB.out | apply below_alloc | apply pw_below_drewN | apply below_drew1 | refine below_set ?_ GE140.out) | exact HB.out)))); have n2_ := Aside0.mk (blk_below (g := gb140) (o := .cells #[.int .i64 0, .slice Ao53 y137.length co53] 24 (0, 0)) (by (with_reducible repeat (first | refine blk_drewN ?_ _ | refine blk_drew ?_ | refine blk_alloc ?_ _)); refine blk_put (cs := #[.int .i64 0, .slice none 0 0]) ?_ 1 _ rfl; (with_reducible repeat (first | refine blk_drewN ?_ _ | refine blk_drew ?_ | refine blk_alloc ?_ _)); refine blk_put (cs := #[.int .i64 0, .slice none 0 0]) ?_ 0 _ rfl; (with_reducible repeat (first | refine blk_drewN ?_ _ | refine blk_drew ?_ | refine blk_alloc ?_ _)); exact BK140.out) hb); have n3_ := Aside0.mk (below_step (by repeat (first | (with_reducible first | exact HB.out | apply below_alloc | apply pw_below_drewN | apply below_drew1 | refine below_set ?_ GE140.out) | exact HB.out)) hb); clear HO139; clear BK140; clear HB; have HO139 := n0_; have HO143 := n1_; have BK140 := n2_; have HB := n3_; clear n0_ n1_ n2_ n3_; (try clear hb); (try clear hb2); (try clear hk); (try clear hi); (try clear ho0); have hcz57_0 : w56.cell? ⟨gb140, 0, none⟩ = some (.int .i64 0) := (blk_cell BK140.out 0).trans rfl; have hcz57_1 : w56.cell? ⟨gb140, 1, none⟩ = some (.slice Ao53 y137.length co53) := (blk_cell BK140.out 1).trans rfl; have hfz57_0 := blk_frozen BK140.out 0; have hfz57_1 := blk_frozen BK140.out 1) | ((with_reducible refine gate_callee (f := 10) rfl ?_); refine goesL_ (some 14) rfl rfl Try.func10 (by kernel_rfl) rfl #[.agg #[.int .i64 0, .slice Ao53 y137.length co53]] rfl (by (try simp only [List.map_toArray, List.map_cons, List.map_nil]); first | done | rfl | (simp only [List.length_drop, List.length_take]; rfl)) ?_; (with_reducible refine (dom_Above.calls k 0 _ _ y137 t144 _ ?side1 ?side2 A2.out).mono ?_); (case side1 => repeat (first | exact (Kd.R_reads' HO139.out).2.2 | (with_reducible refine Kd.C_alloc ?_ _) | (with_reducible refine Kd.C_drewN ?_ _) | (with_reducible refine Kd.C_drew ?_))); (case side2 => exact (Kd.R_reads' HO139.out).2.1); rintro e w58 ⟨v145, rfl, ho0, hb⟩; refine ⟨_, rfl, ?_⟩; have n0_ := Aside0.mk (Kd.R_elder' (by (with_reducible repeat (first | apply Kd.R_alloc | apply Kd.R_drewN | apply Kd.R_drew)); exact HO139.out) (Kd.R_base ho0) hb); have n1_ := Aside0.mk (Kd.S_elder' (by (with_reducible repeat (first | apply Kd.S_alloc | apply Kd.S_drewN | apply Kd.S_drew)); exact HO143.out) (Kd.R_base ho0) hb); have n2_ := Aside0.mk (Kd.R_lower ho0 (below_size (by repeat (first | (with_reducible first | exact HB.out | apply below_alloc | apply pw_below_drewN | apply below_drew1 | refine below_set ?_ GE140.out) | exact HB.out)))); have n3_ := Aside0.mk (blk_below (g := gb140) (o := .cells #[.int .i64 0, .slice Ao53 y137.length co53] 24 (0, 0)) (by (with_reducible repeat (first | refine blk_drewN ?_ _ | refine blk_drew ?_ | refine blk_alloc ?_ _)); exact BK140.out) hb); have n4_ := Aside0.mk (below_step (by repeat (first | (with_reducible first | exact HB.out | apply below_alloc | apply pw_below_drewN | apply below_drew1 | refine below_set ?_ GE140.out) | exact HB.out)) hb); clear HO139; clear HO143; clear BK140; clear HB; have HO139 := n0_; have HO143 := n1_; have HO146 := n2_; have BK140 := n3_; have HB := n4_; clear n0_ n1_ n2_ n3_ n4_; (try clear hb); (try clear hb2); (try clear hk); (try clear hi); (try clear ho0)) | ((with_reducible refine gate_dst (N := 15) rfl ?_); (try (refine gate_guard (by rfl) ?_; dsimp only)); refine Kd.R_lit (Kd.int .i64) _ 3 ?hg (N := 15) ?hd (xs := ([(-1), 0, 1] : List Int)) (inner := [.int .i64 (-1), .int .i64 0, .int .i64 1]) (ok := fun _ => True) (okp := fun _ => True) ?hr ?hp (fun _ hk => hk) trivial (Below.refl _ _) (Nat.le_refl _) (by simp) ?_; (case hd => rfl); (case hg => rfl); (case hr => first | (go_simp; done) | (go_simp; rfl)); (case hp => exact (Reps.one (show Kd.M (Kd.int .i64) _ _ _ (-1) [.int .i64 (-1)] from rfl) (Reps.one (show Kd.M (Kd.int .i64) _ _ _ 0 [.int .i64 0] from rfl) (Reps.one (show Kd.M (Kd.int .i64) _ _ _ 1 [.int .i64 1] from rfl) (Reps.none _ _))))); intro v148 w59 ho60 hb hg_ hnew_; clear hg_ hnew_; (first | rw [← Ny147.out] at ho60 | (simp only [Int.reduceToNat] at ho60; rw [← Ny147.out] at ho60)); have n0_ := Aside0.mk (Kd.R_elder' (by (with_reducible repeat (first | apply Kd.R_alloc | apply Kd.R_drewN | apply Kd.R_drew)); exact HO139.out) (Kd.R_base ho60) hb); have n1_ := Aside0.mk (Kd.S_elder' (by (with_reducible repeat (first | apply Kd.S_alloc | apply Kd.S_drewN | apply Kd.S_drew)); exact HO143.out) (Kd.R_base ho60) hb); have n2_ := Aside0.mk (Kd.R_elder' (by (with_reducible repeat (first | apply Kd.R_alloc | apply Kd.R_drewN | apply Kd.R_drew)); exact HO146.out) (Kd.R_base ho60) hb); have n3_ := Aside0.mk (Kd.R_lower (Kd.R_new' ho60 (Kd.R_lt (by (with_reducible repeat (first | apply Kd.R_alloc | apply Kd.R_drewN | apply Kd.R_drew)); exact HO146.out))) (below_size (by repeat (first | (with_reducible first | exact HB.out | apply below_alloc | apply pw_below_drewN | apply below_drew1 | refine below_set ?_ GE140.out) | exact HB.out)))); have n4_ := Aside0.mk (blk_below (g := gb140) (o := .cells #[.int .i64 0, .slice Ao53 y137.length co53] 24 (0, 0)) (by (with_reducible repeat (first | refine blk_drewN ?_ _ | refine blk_drew ?_ | refine blk_alloc ?_ _)); exact BK140.out) hb); have n5_ := Aside0.mk (below_step (by repeat (first | (with_reducible first | exact HB.out | apply below_alloc | apply pw_below_drewN | apply below_drew1 | refine below_set ?_ GE140.out) | exact HB.out)) hb); clear HO139; clear HO143; clear HO146; clear BK140; clear HB; have HO139 := n0_; have HO143 := n1_; have HO146 := n2_; have HO149 := n3_; have BK140 := n4_; have HB := n5_; clear n0_ n1_ n2_ n3_ n4_ n5_; clear hb ho60; obtain ⟨Ao61, co61, eo61⟩ := Kd.R_slice HO146.out; subst eo61; obtain ⟨Ao62, co62, eo62⟩ := Kd.R_slice HO149.out; subst eo62) | ((with_reducible refine gate_callee (f := 17) rfl ?_); refine goesL_ (some 16) rfl rfl Try.func17 (by kernel_rfl) rfl #[.slice Ao61 t144.length co61, .slice Ao62 y147.length co62] rfl (by (try simp only [List.map_toArray, List.map_cons, List.map_nil]); first | done | rfl | (simp only [List.length_drop, List.length_take]; rfl)) ?_; (with_reducible refine (hallmarkref04_Ints.calls k _ _ t144 _ _ y147 false _ ?side1 ?side2 ?side3 ?side4 A3.out).mono ?_); (case side1 => repeat (first | exact (Kd.R_reads' HO146.out).2.2 | (with_reducible refine Kd.C_alloc ?_ _) | (with_reducible refine Kd.C_drewN ?_ _) | (with_reducible refine Kd.C_drew ?_))); (case side2 => exact (Kd.R_reads' HO146.out).2.1); (case side3 => repeat (first | exact (Kd.R_reads' HO149.out).2.2 | (with_reducible refine Kd.C_alloc ?_ _) | (with_reducible refine Kd.C_drewN ?_ _) | (with_reducible refine Kd.C_drew ?_))); (case side4 => exact (Kd.R_reads' HO149.out).2.1); rintro e w' ⟨rfl, ⟨nd, rfl⟩⟩; refine ⟨_, rfl, ?_⟩))
    go_ret
    exact ⟨by first | rfl | (simp [errW_none, errW_some] <;> rfl) | (simp [*, errW_none, errW_some] <;> rfl), by repeat (first | (with_reducible first | exact HB.out | apply below_alloc | apply pw_below_drewN | apply below_drew1 | refine below_set ?_ GE140.out) | exact HB.out)⟩

/-! ### dom_Edge: function 23 -/
/-! ### dom_Edge: function 23 -/
def edge_go (k : Nat) (ab pl : List Int) (ah : List (List Int)) (a b : Nat) (out : List (List Int)) : Option (List (List Int)) :=
  if allIs (over_f k ab pl (a : Int)) (rd_L1 ah (b : Int)) = true ∧ b < ah.length ∧ (rd_L1 out (a : Int)).length < 1099511627776 then some (if anyIs (over_f k ab pl (a : Int)) (rd_L1 ah (b : Int)) = true then out.set a (rd_L1 out (a : Int) ++ [(b : Int)]) else out) else none
def edge_one (k : Nat) (ab pl : List Int) (ah : List (List Int)) (a b : Nat) (out : List (List Int)) : Option (List (List Int)) :=
  if rd pl (a : Int) < 0 then some out else if rd pl (b : Int) < 0 then some out else if a = b then edge_go k ab pl ah a b out else (over_f k ab pl (a : Int) (b : Int)).bind (fun o => if o = true then some out else edge_go k ab pl ah a b out)
def edge_b (k : Nat) (ab pl : List Int) (ah : List (List Int)) (a : Nat) : Nat → Nat → List (List Int) → Option (List (List Int))
  | 0, _, out => some out
  | d + 1, b, out => (edge_one k ab pl ah a b out).bind (fun o => edge_b k ab pl ah a d (b + 1) o)
def edge_a (k : Nat) (ab pl : List Int) (ah : List (List Int)) (n : Nat) : Nat → Nat → List (List Int) → Option (List (List Int))
  | 0, _, out => some out
  | d + 1, a, out => (edge_b k ab pl ah a n 0 out).bind (fun o => edge_a k ab pl ah n d (a + 1) o)
def dom_Edge.f (k : Nat) (a0_0 : Int) (l0_1 : List (S54)) : Option (List (List Int)) := (dom_grown.f k a0_0 l0_1).bind (fun t => (cfg_Ahead.f k a0_0 l0_1).bind (fun ah => if l0_1.length ≤ 1099511627776 ∧ ah.length = l0_1.length then edge_a k t.1 t.2 ah l0_1.length l0_1.length 0 (List.replicate l0_1.length []) else none))
theorem edge_go_mono (k : Nat) (ab pl : List Int) (ah : List (List Int)) (a b : Nat) (out : List (List Int)) : LeO (edge_go k ab pl ah a b out) (edge_go (k + 1) ab pl ah a b out) := by
  intro r hr
  unfold edge_go at hr ⊢
  split at hr
  · rename_i h
    obtain ⟨h1, h2⟩ := allIs_mono (fun x => over_mono k ab pl (a : Int) x) h.1
    rw [if_pos ⟨h1, h.2⟩, h2]; exact hr
  · cases hr
theorem edge_one_mono (k : Nat) (ab pl : List Int) (ah : List (List Int)) (a b : Nat) (out : List (List Int)) : LeO (edge_one k ab pl ah a b out) (edge_one (k + 1) ab pl ah a b out) := by
  unfold edge_one
  exact LeO.ite (LeO.refl _) (LeO.ite (LeO.refl _) (LeO.ite (edge_go_mono k ab pl ah a b out) (LeO.bind (over_mono k ab pl _ _) (fun o => LeO.ite (LeO.refl _) (edge_go_mono k ab pl ah a b out)))))
theorem edge_b_mono (k : Nat) (ab pl : List Int) (ah : List (List Int)) (a : Nat) : ∀ (d b : Nat) (out : List (List Int)), LeO (edge_b k ab pl ah a d b out) (edge_b (k + 1) ab pl ah a d b out)
  | 0, b, out => LeO.refl _
  | d + 1, b, out => LeO.bind (edge_one_mono k ab pl ah a b out) (fun o => edge_b_mono k ab pl ah a d (b + 1) o)
theorem edge_a_mono (k : Nat) (ab pl : List Int) (ah : List (List Int)) (n : Nat) : ∀ (d a : Nat) (out : List (List Int)), LeO (edge_a k ab pl ah n d a out) (edge_a (k + 1) ab pl ah n d a out)
  | 0, a, out => LeO.refl _
  | d + 1, a, out => LeO.bind (edge_b_mono k ab pl ah a n 0 out) (fun o => edge_a_mono k ab pl ah n d (a + 1) o)
theorem dom_Edge.mono : ∀ a0 a1 k, LeO (dom_Edge.f k a0 a1) (dom_Edge.f (k + 1) a0 a1) := fun a0 a1 k => LeO.bind (dom_grown.mono a0 a1 k) (fun t => LeO.bind (cfg_Ahead.mono a0 a1 k) (fun ah => LeO.ite (edge_a_mono k t.1 t.2 ah _ _ _ _) (LeO.refl _)))
set_option maxHeartbeats 4000000 in
theorem edge1_calls (k : Nat) (g bt hb : Nat) (ab pl : List Int) (A : Option Addr) (c : Nat) (A' : Option Addr) (c' : Nat) (a b : Int) (r : Bool) (w : World) (ht : TreeAt w g ab pl A c A' c') (q1 : w.cell? ⟨bt, 0, none⟩ = some (.pointer (some ⟨g, 0, none⟩))) (q2 : w.cell? ⟨hb, 0, none⟩ = some (.int .i64 a)) (h : over_f k ab pl a b = some r) :
    Calls Try.prog 36 #[.int .i64 b, .pointer (some ⟨bt, 0, none⟩), .pointer (some ⟨hb, 0, none⟩)] w fun e w' => e = .returned (.bool r) ∧ Drawn0 w w' := by
  have HT := Aside0.mk ht
  have H := Aside0.mk h
  clear ht h
  go_enter Try.func36, Try.ntmps36
  go_wp2_with (go_at_call 31; (with_reducible refine (over_calls k g ab pl A c A' c' a b r _ HT.out H.out).mono ?_); rintro e Z2 ⟨rfl, ⟨nd, rfl⟩⟩)
  go_ret
  exact ⟨rfl, ⟨⟨_, rfl⟩⟩⟩
set_option maxHeartbeats 8000000 in
set_option maxRecDepth 100000 in
theorem dom_Edge.calls (k : Nat) (a0_0 : Int) (A0_1 : Option Addr) (c0_1 : Nat) (l0_1 : List (S54)) (r : List (List Int)) (w : World) (hr0_1 : Kd.C k54 w A0_1 l0_1.length l0_1) (hc0_1 : l0_1.length ≤ c0_1) (h : dom_Edge.f k a0_0 l0_1 = some r) :
    Calls Try.prog 23 #[.agg #[.int .i64 a0_0, .slice A0_1 l0_1.length c0_1]] w fun e w' => ∃ v0_ : Value, e = .returned (v0_) ∧ Kd.S (Kd.slice 3 (Kd.int .i64)) 26 w' w.heap.size (fun _ => True) v0_ r ∧ Below w.heap.size w w' := by
  unfold dom_Edge.f at h
  obtain ⟨⟨ab, pl⟩, hg, h⟩ := Option.bind_eq_some_iff.1 h
  obtain ⟨ah, hah, h⟩ := Option.bind_eq_some_iff.1 h
  split at h
  rotate_left
  · cases h
  rename_i hn
  have HR := Aside0.mk hr0_1
  have HC := Aside0.mk hc0_1
  have HG := Aside0.mk hg
  have HAH := Aside0.mk hah
  have HN := Aside0.mk hn.1
  have HAL := Aside0.mk hn.2
  have H0 := Aside0.mk h
  have hu := Try.underlying24
  obtain ⟨W1, hW1⟩ : ∃ W1, w.alloc (.cells #[.int .i64 a0_0, .slice A0_1 l0_1.length c0_1] 24) = W1 := ⟨_, rfl⟩
  have HB := Aside0.mk (show Below w.heap.size w W1 by rw [← hW1]; exact below_alloc (Below.refl w.heap.size w) _)
  have HBX := Aside0.mk (show W1.heap[w.heap.size]? = some (.cells #[.int .i64 a0_0, .slice A0_1 l0_1.length c0_1] 24 (0, 0)) by rw [← hW1]; exact heap_alloc_new w _)
  have HR1 := Aside0.mk (Kd.C_below hr0_1 HB.out)
  have b0 := (blk_cell HBX.out 0).trans rfl
  have b1 := (blk_cell HBX.out 1).trans rfl
  have hW := hW1
  clear hr0_1 hc0_1 h hg hah hn
  go_enter Try.func23, Try.ntmps23
  (try rw [hW])
  clear hW
  have nilC : ∀ X : World, Kd.C (Kd.slice 3 (Kd.int .i64)) X none ([] : List (List Int)).length [] := fun X => (Kd.R_reads' (Kd.R_nil (Kd.slice 3 (Kd.int .i64)) 26 X 0 (fun _ => True))).2.2
  have HNC := Aside0.mk nilC
  clear nilC
  go_upto_region 2 with (first
    | (go_at_call 25; (try rw [hW1]); refine Aside0.out ?_))
  refine ⟨?_⟩
  refine (dom_grown.calls k a0_0 A0_1 c0_1 l0_1 ab pl _ HR1.out HC.out HG.out).mono ?_
  rintro e X2 ⟨g, ga, gp, rfl, hg⟩
  dsimp only
  have s2 := hg.bel.size
  have s3 : w.heap.size < X2.heap.size := Nat.lt_of_lt_of_le (blk_lt HBX.out) s2
  have HLP := Aside0.mk hg.lp
  have HX := Aside0.mk ((hg.bel.block _ (blk_lt HBX.out)).trans HBX.out)
  have HTO := Aside0.mk hg.own
  have HBG := Aside0.mk (below_step HB.out hg.bel)
  have s3e := eq_false (Nat.ne_of_lt s3)
  clear hg b0 b1 HR1 HG
  have b0 := (blk_cell HX.out 0).trans rfl
  have b1 := (blk_cell HX.out 1).trans rfl
  go_upto_region 2 with (fail)
  obtain ⟨X3, hX3⟩ : ∃ X3, X2.alloc (.cells #[.pointer (some ⟨g, 0, none⟩)] 43) = X3 := ⟨_, rfl⟩
  (try rw [hX3])
  have hb3 : Below X2.heap.size X2 X3 := by rw [← hX3]; exact below_alloc (Below.refl _ _) _
  have hbt : X3.heap[X2.heap.size]? = some (.cells #[.pointer (some ⟨g, 0, none⟩)] 43 (0, 0)) := by rw [← hX3]; exact heap_alloc_new _ _
  obtain ⟨bt, hbtn⟩ : ∃ bt, X2.heap.size = bt := ⟨_, rfl⟩
  have HW := Aside0.mk (show LW w a0_0 A0_1 l0_1.length c0_1 X3 g bt ab pl [] _ _ _ _ none from ⟨below_step HBG.out hb3, (hb3.block _ s3).trans HX.out, (HTO.out.below hb3).tree, HLP.out, by rw [← hbtn]; exact hbt, HNC.out X3⟩)
  obtain ⟨Aab, hAab⟩ : ∃ A, some (⟨ga, 0, none⟩ : Addr) = A := ⟨_, rfl⟩
  obtain ⟨Apl, hApl⟩ : ∃ A, some (⟨gp, 0, none⟩ : Addr) = A := ⟨_, rfl⟩
  rw [hAab, hApl] at HW
  clear hAab hApl
  rw [hbtn]
  clear s2 s3 s3e b0 b1 hb3 hbt hX3 HBG HTO HX HNC HLP HBX HB hW1
  have b0 := (blk_cell HW.out.box 0).trans rfl
  have b1 := (blk_cell HW.out.box 1).trans rfl
  clear hbtn
  have d0 := decide_eq_true (show (0 : Int) ≤ (l0_1.length : Int) by omega)
  go_wp2_with (first
    | ((with_reducible refine gate_dst (N := 12) rfl ?_); refine Kd.S_make (Kd.slice 3 (Kd.int .i64)) _ 26 rfl (N := 12) rfl 39 _ _ rfl (l0_1.length : Int) rfl rfl Try.underlying39 (.slice none 0 0) 24 (by kernel_rfl) rfl (by decide) (by omega) [] (ok := fun _ => True) (okp := fun _ => True) ⟨_, rfl, Kd.R_nil _ _ _ _ _⟩ (fun _ hk => hk) trivial (by omega) (Nat.le_trans (Nat.mul_le_mul_right _ (show (l0_1.length : Int).toNat ≤ 1099511627776 by have := HN.out; omega)) (by omega)) (Below.refl _ _) (Nat.le_refl _) ?_; intro v113 w6 ho7 hb hg_ hnew_; clear hg_ hnew_; rw [Int.toNat_natCast] at ho7; obtain ⟨Ao, co, eo⟩ := Kd.S_slice ho7; rw [List.length_replicate] at eo; subst eo; have HO := Aside0.mk ho7; have HB6 := Aside0.mk hb; clear ho7 hb))
  clear b0 b1 d0
  have HL0 := Aside0.mk (show (List.replicate l0_1.length ([] : List Int)).length = l0_1.length from List.length_replicate)
  go_loopg [15] l0_1.length (fun gk v15 Y => ∃ (i : Nat) (out : List (List Int)), v15 = .int .i64 (i : Int) ∧ Aside0 (gk + i = l0_1.length) ∧ Aside0 (edge_a k ab pl ah l0_1.length gk i out = some r) ∧ Aside0 (out.length = l0_1.length) ∧ Aside0 (Below X3.heap.size X3 Y) ∧ Aside0 (Kd.S (Kd.slice 3 (Kd.int .i64)) 26 Y X3.heap.size (fun _ => True) (.slice Ao l0_1.length co) out))
  case atStart => exact ⟨0, _, rfl, ⟨by omega⟩, H0, HL0, HB6, HO⟩
  case round =>
    clear H0 HO HL0 HB6
    obtain ⟨i, out, rfl, HK, HA, HOL, HY, HO⟩ := hrel
    by_cases hi : i < l0_1.length
    · have d1b := decide_eq_true (show (i : Int) < (l0_1.length : Int) by omega)
      have d1n := decide_eq_true hi
      have h := HA.out
      obtain ⟨gn, rfl⟩ : ∃ gn, gk = gn + 1 := ⟨gk - 1, by have := HK.out; omega⟩
      rw [edge_a] at h
      obtain ⟨o, ho, h⟩ := Option.bind_eq_some_iff.1 h
      have HB0 := Aside0.mk ho
      have HA2 := Aside0.mk h
      have HEQ := Aside0.mk (show wrap64 ((i : Int) + 1) = ((i + 1 : Nat) : Int) from by have := HN.out; unfold wrap64; omega)
      have HGN : Aside0 (gn + (i + 1) = l0_1.length) := ⟨by have := HK.out; omega⟩
      have HI := Aside0.mk hi
      obtain ⟨X4, hX4⟩ : ∃ X4, wr.alloc (.cells #[.int .i64 (i : Int)] 3) = X4 := ⟨_, rfl⟩
      have hbX : Below wr.heap.size wr X4 := by rw [← hX4]; exact below_alloc (Below.refl _ _) _
      obtain ⟨hb_, hbn⟩ : ∃ hb_, wr.heap.size = hb_ := ⟨_, rfl⟩
      have HHB := Aside0.mk (show X4.heap[hb_]? = some (.cells #[.int .i64 (i : Int)] 3 (0, 0)) by rw [← hX4, ← hbn]; exact heap_alloc_new _ _)
      have HY4 := Aside0.mk (below_step HY.out hbX)
      have HO4 := Aside0.mk (Kd.S_mono (ok' := fun k => k ≠ hb_) (Kd.S_below (Kd.S_bound HO.out) hbX) (fun k hk => by have := hk.2.2.1; omega))
      have HX4 := Aside0.mk (show X3.heap.size ≤ hb_ by rw [← hbn]; exact HY.out.size)
      clear h ho hi hbX HY HO HA HK
      go_wp2
      clear hX4 hbn
      go_loopg [20] l0_1.length (fun gk v20 Y => ∃ (j : Nat) (out : List (List Int)), v20 = .int .i64 (j : Int) ∧ Aside0 (gk + j = l0_1.length) ∧ Aside0 (edge_b k ab pl ah i gk j out = some o) ∧ Aside0 (out.length = l0_1.length) ∧ Aside0 (Below X3.heap.size X3 Y) ∧ Aside0 (Kd.S (Kd.slice 3 (Kd.int .i64)) 26 Y X3.heap.size (fun k => k ≠ hb_) (.slice Ao l0_1.length co) out) ∧ Aside0 (Y.heap[hb_]? = some (.cells #[.int .i64 (i : Int)] 3 (0, 0))))
      case atStart => exact ⟨0, _, rfl, ⟨by omega⟩, HB0, HOL, HY4, HO4, HHB⟩
      case round =>
        clear HB0 HO4 HHB HOL HY4
        obtain ⟨j, out, rfl, HK, HA, HOL, HYY, HO, HHB⟩ := hrel
        have HWY := Aside0.mk (HW.out.below HYY.out)
        by_cases hj : j < l0_1.length
        · have e1b := decide_eq_true (show (j : Int) < (l0_1.length : Int) by omega)
          have e1n := decide_eq_true hj
          have h := HA.out
          obtain ⟨gm, rfl⟩ : ∃ gm, gk = gm + 1 := ⟨gk - 1, by have := HK.out; omega⟩
          rw [edge_b] at h
          obtain ⟨o1, ho1, h⟩ := Option.bind_eq_some_iff.1 h
          have HE1 := Aside0.mk ho1
          have HB2 := Aside0.mk h
          have HEJ := Aside0.mk (show wrap64 ((j : Int) + 1) = ((j + 1 : Nat) : Int) from by have := HN.out; unfold wrap64; omega)
          have HGM : Aside0 (gm + (j + 1) = l0_1.length) := ⟨by have := HK.out; omega⟩
          have HJ := Aside0.mk hj
          have q0 := (blk_cell HHB.out 0).trans rfl
          have q1 := (blk_cell HWY.out.bx 0).trans rfl
          have q2 := (blk_cell HWY.out.tree.blk 1).trans rfl
          have hI := HI.out
          have hlp := HWY.out.lp
          obtain ⟨adi, ei, hxi⟩ := Kd.at_int HWY.out.tree.hpl (i : Int) (by omega) (by omega)
          obtain ⟨adj, ej, hxj⟩ := Kd.at_int HWY.out.tree.hpl (j : Int) (by omega) (by omega)
          cases ei
          cases ej
          rw [Int.toNat_natCast] at hxi hxj
          have p1 : (i < pl.length) = True := eq_true (by omega)
          have p2 : ((i : Int) < (pl.length : Int)) = True := eq_true (by omega)
          have p3 : (j < pl.length) = True := eq_true (by omega)
          have p4 : ((j : Int) < (pl.length : Int)) = True := eq_true (by omega)
          have HTJ := Aside0.mk HWY.out.tree
          have FINS : Aside0 (∀ Z : World, Below wr.heap.size wr Z → edge_b k ab pl ah i gm (j + 1) out = some o → ∃ (j2 : Nat) (out2 : List (List Int)), Value.int .i64 (wrap64 ((j : Int) + 1)) = .int .i64 (j2 : Int) ∧ Aside0 (gm + j2 = l0_1.length) ∧ Aside0 (edge_b k ab pl ah i gm j2 out2 = some o) ∧ Aside0 (out2.length = l0_1.length) ∧ Aside0 (Below X3.heap.size X3 Z) ∧ Aside0 (Kd.S (Kd.slice 3 (Kd.int .i64)) 26 Z X3.heap.size (fun k => k ≠ hb_) (.slice Ao l0_1.length co) out2) ∧ Aside0 (Z.heap[hb_]? = some (.cells #[.int .i64 (i : Int)] 3 (0, 0)))) := ⟨fun Z hZ he => ⟨j + 1, out, by rw [HEJ.out], HGM, ⟨he⟩, HOL, ⟨below_step HYY.out hZ⟩, ⟨Kd.S_below HO.out hZ⟩, ⟨(hZ.block _ (blk_lt HHB.out)).trans HHB.out⟩⟩⟩
          have he := HE1.out
          unfold edge_one at he
          obtain ⟨x, hx⟩ : ∃ x, rd pl (i : Int) = x := ⟨_, rfl⟩
          obtain ⟨y, hy⟩ : ∃ y, rd pl (j : Int) = y := ⟨_, rfl⟩
          rw [hx] at hxi he
          rw [hy] at hxj he
          clear hx hy hI hlp h ho1 hj
          by_cases cx : x < 0
          · rw [if_pos cx] at he
            obtain rfl := Option.some.inj he
            have cxb := decide_eq_true cx
            clear he cx
            go_wp2
            go_quiet (fail)
            go_wp2
            go_roundg gm
            case measure => omega
            case rel => exact FINS.out _ (pw_below_drewN (Below.refl _ _) _) HB2.out
          rw [if_neg cx] at he
          have cxb := decide_eq_false cx
          clear cx
          by_cases cy : y < 0
          · rw [if_pos cy] at he
            obtain rfl := Option.some.inj he
            have cyb := decide_eq_true cy
            clear he cy
            go_wp2
            go_quiet (fail)
            go_wp2
            go_roundg gm
            case measure => omega
            case rel => exact FINS.out _ (pw_below_drewN (Below.refl _ _) _) HB2.out
          rw [if_neg cy] at he
          have cyb := decide_eq_false cy
          clear cy
          have HE2 := Aside0.mk he
          clear he
          obtain ⟨sk, hsk⟩ : ∃ sk : Bool, (sk = true → o1 = out) ∧ (sk = false → edge_go k ab pl ah i j out = some o1) ∧ ((i = j ∧ sk = false) ∨ (i ≠ j ∧ over_f k ab pl (i : Int) (j : Int) = some sk)) := by
            have he := HE2.out
            by_cases e : i = j
            · rw [if_pos e] at he
              exact ⟨false, fun h => (by cases h), fun _ => he, .inl ⟨e, rfl⟩⟩
            · rw [if_neg e] at he
              obtain ⟨v, hv, h2⟩ := Option.bind_eq_some_iff.1 he
              refine ⟨v, fun hv2 => ?_, fun hv2 => ?_, .inr ⟨e, hv⟩⟩
              · rw [if_pos hv2] at h2; exact (Option.some.inj h2).symm
              · rw [if_neg (by rw [hv2]; decide)] at h2; exact h2
          have HSK := Aside0.mk hsk
          clear hsk HE2
          go_upto_region 9 with (fail)
          go_cut [51] (fun v51 wc => v51 = .bool sk ∧ ∃ nd, wc = wr.drewN nd)
          case first =>
            rcases HSK.out.2.2 with ⟨e1, e2⟩ | ⟨e1, e2⟩
            · subst e2
              have n1 : ((i : Int) = (j : Int)) = True := eq_true (by omega)
              have n2 := decide_eq_false (show ¬ ((i : Int) ≠ (j : Int)) by omega)
              have n3 : ((i : Int) != (j : Int)) = false := by rw [bne_eq_false_iff_eq]; omega
              clear e1
              go_quiet (fail)
              go_wp2
              go_meet
              case rel => exact ⟨rfl, _, rfl⟩
            · have HOV := Aside0.mk e2
              have n1 : ((i : Int) = (j : Int)) = False := eq_false (by omega)
              have n2 := decide_eq_true (show ((i : Int) ≠ (j : Int)) by omega)
              have n3 : ((i : Int) != (j : Int)) = true := by rw [bne_iff_ne]; omega
              clear e1 e2
              cases sk with
              | true =>
                go_quiet ((go_at_call 31; refine Calls.quiet_of (v := .bool true) ?_; (with_reducible refine (over_calls k g ab pl _ _ _ _ (i : Int) (j : Int) true _ (HTJ.out.below (pw_below_drewN (Below.refl _ _) _)) HOV.out).mono ?_); rintro e Z2 ⟨he, ⟨hd⟩⟩; exact ⟨he, hd⟩))
                go_wp2
                go_meet
                case rel => exact ⟨rfl, _, rfl⟩
              | false =>
                go_quiet ((go_at_call 31; refine Calls.quiet_of (v := .bool false) ?_; (with_reducible refine (over_calls k g ab pl _ _ _ _ (i : Int) (j : Int) false _ (HTJ.out.below (pw_below_drewN (Below.refl _ _) _)) HOV.out).mono ?_); rintro e Z2 ⟨he, ⟨hd⟩⟩; exact ⟨he, hd⟩))
                go_wp2
                go_meet
                case rel => exact ⟨rfl, _, rfl⟩
          case rest =>
            obtain ⟨rfl, nd, rfl⟩ := hcut
            have hbD := pw_below_drewN (Below.refl wr.heap.size wr) nd
            cases sk with
            | true =>
              obtain rfl := HSK.out.1 rfl
              go_wp2
              go_roundg gm
              case measure => omega
              case rel => exact FINS.out _ (pw_below_drewN (Below.refl _ _) _) HB2.out
            | false =>
              have hgo := HSK.out.2.1 rfl
              unfold edge_go at hgo
              split at hgo
              rotate_left
              · cases hgo
              rename_i hcond
              have hgo2 := Option.some.inj hgo
              have HGO := Aside0.mk hgo2
              have HALL := Aside0.mk (allIs_is hcond.1)
              have HLEN := Aside0.mk hcond.2.2
              have HJA := Aside0.mk hcond.2.1
              clear hgo hgo2 hcond HSK
              have HDB := Aside0.mk hbD
              have HWD := Aside0.mk (HWY.out.below hbD)
              have HHD := Aside0.mk ((hbD.block _ (blk_lt HHB.out)).trans HHB.out)
              clear hbD q0 q1 q2 hxi hxj p1 p2 p3 p4 cxb cyb HTJ
              generalize wr.drewN nd = Y1 at HDB HWD HHD ⊢
              have q2 := (blk_cell HWD.out.box 0).trans rfl
              have q3 := (blk_cell HWD.out.box 1).trans rfl
              go_wp2_with (first
                | (go_at_call 28; refine Aside0.out ?_))
              refine ⟨?_⟩
              refine (cfg_Ahead.calls k a0_0 A0_1 c0_1 l0_1 ah Y1 (Kd.C_below HR.out HWD.out.bel) HC.out HAH.out).mono ?_
              rintro e Y2 ⟨v8, rfl, hS8, hB8⟩
              dsimp only
              obtain ⟨A8, c8, rfl⟩ := Kd.R_slice (Kd.S_R hS8)
              obtain ⟨adr, Ar, cr, e, k0, f0, g0⟩ := at_L1 (Kd.R_reads' (Kd.S_R hS8)).2.2 (j : Int) (by omega) (by have := HJA.out; omega)
              subst e
              rw [Int.toNat_natCast] at k0
              have m1 : (j < ah.length) = True := eq_true HJA.out
              have m2 : ((j : Int) < (ah.length : Int)) = True := eq_true (by have := HJA.out; omega)
              have HW2 := Aside0.mk (HWD.out.below hB8)
              have HH2 := Aside0.mk ((hB8.block _ (blk_lt HHD.out)).trans HHD.out)
              have HD2 := Aside0.mk (below_step HDB.out hB8)
              have HG0 := Aside0.mk g0
              clear hS8 hB8 g0 f0 q2 q3
              have qt := (blk_cell HW2.out.bx 0).trans rfl
              have qh := (blk_cell HH2.out 0).trans rfl
              have hclo : ∀ (nd : Nat) (x : Int), x ∈ rd_L1 ah (j : Int) → Calls Try.prog 36 (#[.int .i64 x] ++ #[.pointer (some ⟨bt, 0, none⟩), .pointer (some ⟨hb_, 0, none⟩)]) (Y2.drewN nd) fun e w' => e = .returned (.bool (over_f k ab pl (i : Int) x == some true)) ∧ Drawn0 (Y2.drewN nd) w' := fun nd x hx =>
                edge1_calls k g bt hb_ ab pl _ _ _ _ (i : Int) x _ (Y2.drewN nd) (HW2.out.tree.below (pw_below_drewN (Below.refl _ _) _)) qt qh (HALL.out x hx)
              have HCLO := Aside0.mk hclo
              clear hclo
              go_wp2_with (first
                | (go_at_call 29; refine Aside0.out ?_))
              refine ⟨?_⟩
              refine (containsFunc_calls 36 #[.pointer (some ⟨bt, 0, none⟩), .pointer (some ⟨hb_, 0, none⟩)] (enters_of Try.func36 (by kernel_rfl) rfl) (fun x => over_f k ab pl (i : Int) x == some true) Ar cr (rd_L1 ah (j : Int)) Y2 HG0.out HCLO.out).mono ?_
              rintro e Y3 ⟨rfl, ⟨nd3, rfl⟩⟩
              have h := HGO.out
              obtain ⟨q, hq⟩ : ∃ q, (rd_L1 ah (j : Int)).any (fun x => over_f k ab pl (i : Int) x == some true) = q := ⟨_, rfl⟩
              have hq2 : anyIs (over_f k ab pl (i : Int)) (rd_L1 ah (j : Int)) = q := hq
              rw [hq2] at h
              rw [hq]
              clear hq hq2 HCLO qt qh k0 m1 m2
              have hbD := pw_below_drewN (Below.refl Y2.heap.size Y2) nd3
              have HW3 := Aside0.mk (HW2.out.below hbD)
              have HH3 := Aside0.mk ((hbD.block _ (blk_lt HH2.out)).trans HH2.out)
              have HD3 := Aside0.mk (below_step HD2.out hbD)
              generalize Y2.drewN nd3 = Y3 at HW3 HH3 HD3 ⊢
              clear hbD
              cases q with
              | false =>
                rw [if_neg (by simp)] at h
                subst h
                go_simp
                go_wp2
                go_roundg gm
                case measure => omega
                case rel => exact FINS.out _ HD3.out HB2.out
              | true =>
                rw [if_pos rfl] at h
                have HO1 := Aside0.mk h
                clear h
                go_simp
                have hHO := Kd.S_below HO.out HD3.out
                have hI := HI.out
                have hol := HOL.out
                obtain ⟨go, cap, eo, gb, gl, cl, HG⟩ := Kd.S_form hHO (by omega)
                injection eo with ea en ec
                subst ea
                subst ec
                obtain ⟨oki, ce, hcl, hM, hcc, hfr, hoki, hH⟩ := Kd.S_elem hHO [] (i : Int) (by omega) (by omega)
                obtain ⟨ve, rfl, ge⟩ := hM
                have g1 := (Kd.S_R hHO).1 go rfl
                have g2 : (go = hb_) = False := eq_false g1
                have g3 : (hb_ = go) = False := eq_false (fun e => g1 e.symm)
                have hv := hcc 0 _ rfl
                obtain ⟨Ar2, cr2, rfl⟩ := Kd.R_slice ge
                rw [Nat.add_zero, show ((Kd.slice 3 (Kd.int .i64))).sz = 1 from rfl, Nat.mul_one, Int.toNat_natCast] at hv
                have g4 : (go = Y3.heap.size) = False := eq_false (Nat.ne_of_lt gl)
                have g5 : (hb_ = Y3.heap.size) = False := eq_false (Nat.ne_of_lt (blk_lt HH3.out))
                have HGB := Aside0.mk gb
                have HGL := Aside0.mk gl
                have HOKI := Aside0.mk hoki
                have HHH := Aside0.mk hH
                have HGE := Aside0.mk (show Kd.R (Kd.int .i64) 3 Y3 X3.heap.size oki (.slice Ar2 (rd_L1 out (i : Int)).length cr2) (rd_L1 out (i : Int)) from ge)
                have q0 := (blk_cell HH3.out 0).trans rfl
                have n1 : ((i : Int) < (l0_1.length : Int)) = True := eq_true (by omega)
                have n2 : (i < l0_1.length) = True := eq_true hI
                have hv2 : Y3.cell? ⟨go, i, none⟩ = some (.slice Ar2 (rd_L1 out (i : Int)).length cr2) := hv
                have hv3 : ∀ o : Obj, (Y3.alloc o).cell? ⟨go, i, none⟩ = some (.slice Ar2 (rd_L1 out (i : Int)).length cr2) := fun o => ((below_alloc (Below.refl Y3.heap.size Y3) o).cell (World.block_lt_of_cell? Y3 _ hv2)).trans hv2
                clear hcc hfr hcl ge hH hoki gb gl HG hHO hv hol en hI HO g1
                go_wp2
                refine start_ (n := 11) (S := fun w' => w'.cell? ⟨hb_, 0, none⟩ = some (.int .i64 (i : Int)) ∧ w'.cell? ⟨go, i, none⟩ = some (.slice Ar2 (rd_L1 out (i : Int)).length cr2)) (ds := [10]) #[false, false, false, false, false, false, false, false, false, false, false] (by kernel_rfl) rfl rfl ⟨q0, hv2⟩ (fun hHeld => ?_)
                refine pure_ (i := 0) (N := some 59) (v := ?_) (a' := ?_) #[true, false, false, false, false, false, false, false, false, false, false] rfl rfl (by kernel_rfl) (fun _ _ _ h => h) (Or.inl ⟨by rfl, ?_⟩) ?_ ?_
                rotate_left
                · intro w'
                  go_simp
                  with_reducible rfl
                rotate_left
                · simp only [Act.put, List.setIfInBounds_toArray, List.set_cons_zero, List.set_cons_succ, i64_w, i32_w]
                  rfl
                refine take_ (i := 1) (N := some 60) (v := ?_) (a' := ?_) #[true, true, false, false, false, false, false, false, false, false, false] rfl rfl (by kernel_rfl) (fun _ _ _ h => h) (Or.inl ⟨by rfl, ?_⟩) hHeld ?_ ?_
                rotate_left
                · rintro w' ⟨s0, s1⟩
                  go_simp
                  with_reducible rfl
                rotate_left
                · simp only [Act.put, List.setIfInBounds_toArray, List.set_cons_zero, List.set_cons_succ, i64_w, i32_w]
                  rfl
                refine pure_ (i := 2) (N := some 61) (v := ?_) (a' := ?_) #[true, true, true, false, false, false, false, false, false, false, false] rfl rfl (by kernel_rfl) (fun _ _ _ h => h) (Or.inl ⟨by rfl, ?_⟩) ?_ ?_
                rotate_left
                · intro w'
                  go_simp
                  with_reducible rfl
                rotate_left
                · simp only [Act.put, List.setIfInBounds_toArray, List.set_cons_zero, List.set_cons_succ, i64_w, i32_w]
                  rfl
                refine take_ (i := 3) (N := some 62) (v := ?_) (a' := ?_) #[true, true, true, true, false, false, false, false, false, false, false] rfl rfl (by kernel_rfl) (fun _ _ _ h => h) (Or.inl ⟨by rfl, ?_⟩) hHeld ?_ ?_
                rotate_left
                · rintro w' ⟨s0, s1⟩
                  go_simp
                  with_reducible rfl
                rotate_left
                · simp only [Act.put, List.setIfInBounds_toArray, List.set_cons_zero, List.set_cons_succ, i64_w, i32_w]
                  rfl
                refine pure_ (i := 4) (N := some 63) (v := ?_) (a' := ?_) #[true, true, true, true, true, false, false, false, false, false, false] rfl rfl (by kernel_rfl) (fun _ _ _ h => h) (Or.inl ⟨by rfl, ?_⟩) ?_ ?_
                rotate_left
                · intro w'
                  go_simp
                  with_reducible rfl
                rotate_left
                · simp only [Act.put, List.setIfInBounds_toArray, List.set_cons_zero, List.set_cons_succ, i64_w, i32_w]
                  rfl
                refine take_ (i := 5) (N := some 64) (v := ?_) (a' := ?_) #[true, true, true, true, true, true, false, false, false, false, false] rfl rfl (by kernel_rfl) (fun _ _ _ h => h) (Or.inl ⟨by rfl, ?_⟩) hHeld ?_ ?_
                rotate_left
                · rintro w' ⟨s0, s1⟩
                  go_simp
                  with_reducible rfl
                rotate_left
                · simp only [Act.put, List.setIfInBounds_toArray, List.set_cons_zero, List.set_cons_succ, i64_w, i32_w]
                  rfl
                refine pure_ (i := 6) (N := some 65) (v := ?_) (a' := ?_) #[true, true, true, true, true, true, true, false, false, false, false] rfl rfl (by kernel_rfl) (fun _ _ _ h => h) (Or.inl ⟨by rfl, ?_⟩) ?_ ?_
                rotate_left
                · intro w'
                  go_simp
                  with_reducible rfl
                rotate_left
                · simp only [Act.put, List.setIfInBounds_toArray, List.set_cons_zero, List.set_cons_succ, i64_w, i32_w]
                  rfl
                refine one_ (i := 7) (N := some 66) #[true, true, true, true, true, true, true, true, false, false, false] rfl rfl (by kernel_rfl) (by decide) (fun K hK => ?_)
                go_simp
                refine hK.out _ _ ⟨by go_keep, by go_keep⟩ (fun hHeld => ?_)
                clear hK K
                refine one_ (i := 8) (N := some 67) #[true, true, true, true, true, true, true, true, true, false, false] rfl rfl (by kernel_rfl) (by decide) (fun K hK => ?_)
                refine Kd.R_append_step (Kd.int .i64) (w0 := Y3) (W := Y3.drew) X3.heap.size (by rfl) (.tmp 64) (.tmp 66) 26 3 (.int .i64 0) 8 rfl Try.underlying26 (show (Try.prog.info? 3).map (fun i => (i.zero, i.size, i.bytes)) = some (some (.int .i64 0), 1, 8) by kernel_rfl) rfl (by decide) (by decide) (.slice Ar2 (rd_L1 out (i : Int)).length cr2) (rd_L1 out (i : Int)) (j : Int) [.int .i64 (j : Int)] (fun k_ => oki k_ ∨ (k_ ≠ hb_ ∧ Y3.heap.size ≤ k_)) (fun _ => False) rfl rfl rfl (fun _ hk => hk.elim) ?aF ?aO ?aB ?aS ?aL ?_
                case aF => exact fun k hk => .inr ⟨fun e => by have := blk_lt HH3.out; have hk2 : Y3.heap.size ≤ k := hk; omega, hk⟩
                case aO => exact Kd.R_mono (Kd.R_drew HGE.out) (fun _ hk => .inl hk)
                case aB => exact below_drew (Below.refl _ _)
                case aS => exact Nat.le_trans HGB.out (Nat.le_of_lt HGL.out)
                case aL => have := HLEN.out; omega
                intro v1 w1 ho hb hg hat
                have hH1 := Kd.H_grown (Kd.H_widen (Kd.H_drew HHH.out)) hg (fun k e => .inl (HGE.out.1 k e))
                obtain ⟨hc1, hf1⟩ := Kd.H_at hH1 (by omega) (by have := HI.out; omega)
                have hx1 := hc1 0 _ rfl
                have hfr1 := hf1 0
                rw [Nat.add_zero, show ((Kd.slice 3 (Kd.int .i64))).sz = 1 from rfl, Nat.mul_one, Int.toNat_natCast] at hx1 hfr1
                obtain ⟨A1, c1, rfl⟩ := Kd.R_slice ho
                have HH1 := Aside0.mk hH1
                have HV1 := Aside0.mk ho
                have HB1 := Aside0.mk hb
                have HG1 := Aside0.mk hg
                have p0 := (blk_cell ((hg.block _ (blk_lt HH3.out) (fun e => (HOKI.out _ (HGE.out.1 _ e.symm)).1 rfl)).trans HH3.out) 0).trans rfl
                clear ho hb hg hat hc1 hf1 hH1
                refine hK.out _ _ ⟨p0, hx1⟩ (fun hHeld => ?_)
                clear hK K
                refine norm_ (a' := ?_) ?_ ?_
                rotate_left
                · show Act.put _ (some 67) _ = _
                  simp only [Act.put, List.setIfInBounds_toArray, List.set_cons_zero, List.set_cons_succ, i64_w, i32_w]
                  rfl
                refine pure_ (i := 9) (N := some 68) (v := ?_) (a' := ?_) #[true, true, true, true, true, true, true, true, true, true, false] rfl rfl (by kernel_rfl) (fun _ _ _ h => h) (Or.inl ⟨by rfl, ?_⟩) ?_ ?_
                rotate_left
                · intro w'
                  go_simp
                  with_reducible rfl
                rotate_left
                · simp only [Act.put, List.setIfInBounds_toArray, List.set_cons_zero, List.set_cons_succ, i64_w, i32_w]
                  rfl
                refine last_ (i := 10) (N := none) #[true, true, true, true, true, true, true, true, true, true, true] rfl rfl (by kernel_rfl) (by decide) (fun K hK => ?_)
                refine skip_ (w1 := ?_) (by rfl) rfl ?_ ?_
                rotate_left
                · go_simp
                  rfl
                refine hK.out _ _ ?_
                clear hK K
                refine done_ (by kernel_rfl) ?_
                all_goals
                  have hS := Kd.S_seg0 HH1.out (by omega) (by have := HI.out; omega) (seg := [.slice A1 (rd_L1 out (i : Int) ++ [(j : Int)]).length c1]) (j := 0) (show 1 ≤ 1 by decide) (x' := rd_L1 out (i : Int) ++ [(j : Int)]) (Kd.M_row HV1.out) (fun _ hk => hk)
                  rw [List.length_append, List.length_singleton] at hS
                  simp only [show ((Kd.slice 3 (Kd.int .i64))).sz = 1 from rfl, Nat.mul_one, Nat.add_zero, Int.toNat_natCast] at hS
                  have HS := Aside0.mk hS.1
                  have HHF := Aside0.mk (((hS.2).block _ (by have := blk_lt HH3.out; have h2 := HG1.out.size; exact Nat.lt_of_lt_of_le this h2) (fun e => by injection e with e; exact absurd (g3.mp e) id)).trans ((HG1.out.block _ (blk_lt HH3.out) (fun e => (HOKI.out _ (HGE.out.1 _ e.symm)).1 rfl)).trans HH3.out))
                  have HBF := Aside0.mk (below_step HYY.out HD3.out)
                  clear hS
                  go_wp2
                  go_roundg gm
                  case measure => omega
                  case rel =>
                    refine ⟨j + 1, o1, by rw [HEJ.out], HGM, HB2, ⟨?_⟩, ⟨?_⟩, ⟨?_⟩, ⟨HHF.out⟩⟩
                    · rw [← HO1.out, List.length_set]; exact HOL.out
                    · exact below_set (HBF.out.trans HB1.out) HGB.out
                    · rw [← HO1.out]; exact HS.out
        · have e1b := decide_eq_false hj
          have h := HA.out
          obtain rfl : gk = 0 := by have := HK.out; omega
          rw [edge_b] at h
          obtain rfl := Option.some.inj h
          have HS := Aside0.mk (Kd.S_mono (ok' := fun _ => True) HO.out (fun _ _ => trivial))
          clear h hj HA HK
          go_wp2
          go_roundg gn
          case measure => omega
          case rel => exact ⟨i + 1, out, by rw [HEQ.out], HGN, HA2, HOL, HYY, HS⟩
    · have d1b := decide_eq_false hi
      have h := HA.out
      obtain rfl : gk = 0 := by have := HK.out; omega
      rw [edge_a] at h
      obtain rfl := Option.some.inj h
      have HWE := Aside0.mk (HW.out.below HY.out)
      have HE2 := Aside0.mk (Kd.S_lower HO.out HW.out.bel.size)
      clear h hi HA HK HY HO
      go_wp2
      go_ret
      exact ⟨_, rfl, HE2.out, HWE.out.bel⟩

/-! ### hallmarkref07_Has: function 12 -/
def hallmarkref07_Has.l0 : Nat → List Int → Int → Int → Option (Bool)
  | 0, _, _, _ => none
  | k + 1, x0, x1, x5 => if x5 < (x0.length : Int) then (if 0 ≤ x5 then (if (rd x0 x5) = x1 then (some true) else (hallmarkref07_Has.l0 k x0 x1 (wrap64 (x5 + 1)))) else (none)) else (some false)
def hallmarkref07_Has.f (k : Nat) (l0 : List Int) (a1 : Int) : Option (Bool) := hallmarkref07_Has.l0 k l0 a1 0
theorem hallmarkref07_Has.mono_l : ∀ k, (∀ y0 y1 y2, LeO (hallmarkref07_Has.l0 k y0 y1 y2) (hallmarkref07_Has.l0 (k + 1) y0 y1 y2))
  | 0 => fun _ _ _ r h => by simp [hallmarkref07_Has.l0] at h
  | k + 1 => by
    have ih0 := hallmarkref07_Has.mono_l k
    · intro y0 y1 y2
      unfold hallmarkref07_Has.l0
      repeat' first
      | (with_reducible exact ih0 _ _ _)
      | (with_reducible exact LeO.refl _)
      | (with_reducible exact LeO.none _)
      | (with_reducible refine LeO.ite ?_ ?_)
      | (with_reducible refine LeO.bind ?_ (fun _ => ?_))
      | exact ih0 _ _ _
      | exact LeO.none _
      | refine LeO.ite ?_ ?_
      | refine LeO.bind ?_ (fun _ => ?_)
theorem hallmarkref07_Has.mono : ∀ a0 a1 k, LeO (hallmarkref07_Has.f k a0 a1) (hallmarkref07_Has.f (k + 1) a0 a1) := by
  intro a0 a1 k
  have ih0 := hallmarkref07_Has.mono_l k
  unfold hallmarkref07_Has.f
  repeat' first
      | (with_reducible exact ih0 _ _ _)
      | (with_reducible exact LeO.refl _)
      | (with_reducible exact LeO.none _)
      | (with_reducible refine LeO.ite ?_ ?_)
      | (with_reducible refine LeO.bind ?_ (fun _ => ?_))
      | exact ih0 _ _ _
      | exact LeO.none _
      | refine LeO.ite ?_ ?_
      | refine LeO.bind ?_ (fun _ => ?_)
set_option maxHeartbeats 8000000 in
set_option maxRecDepth 100000 in
theorem hallmarkref07_Has.calls (k : Nat) (A0 : Option Addr) (c0 : Nat) (l0 : List Int) (a1 : Int) (r : Bool) (w : World) (hr0 : Kd.C (Kd.int .i64) w A0 l0.length l0) (hc0 : l0.length ≤ c0) (h : hallmarkref07_Has.f k l0 a1 = some r) :
    Calls Try.prog 12 #[.slice A0 l0.length c0, .int .i64 a1] w fun e w' => e = .returned (.bool r) ∧ Drawn0 w w' := by
  have HR0 := Aside0.mk hr0
  have HC0 := Aside0.mk hc0
  clear hr0 hc0
  have H : (hallmarkref07_Has.l0 k l0 a1 0) = some r := h
  clear h
  have H' := Aside0.mk H
  clear H
  go_enter Try.func12, Try.ntmps12
  go_wp2
  go_loopg [5] k (fun kq v5 w' => ∃ (x5_1 : Int), v5 = .int .i64 x5_1 ∧ Aside0 (hallmarkref07_Has.l0 kq l0 a1 x5_1 = some r) ∧ Aside0 (kq ≤ k) ∧ Drawn0 w w')
  case atStart => exact ⟨(0), (by first | rfl | (simp; done) | (simp [*]; done) | (simp [*, wrap64]; done) | (simp [*]; unfold wrap64; omega)), H', ⟨Nat.le_refl _⟩, by repeat (first | exact Drawn0.refl _ | apply Drawn0.step)⟩
  case round =>
    clear H'
    try clear c1
    try clear p2
    obtain ⟨x5_1, rfl, HA, HK1, ⟨m1, rfl⟩⟩ := hrel
    cases gk with
    | zero => exact absurd HA.out (by simp [hallmarkref07_Has.l0])
    | succ k1 =>
      have H := HA.out
      clear HA
      simp only [hallmarkref07_Has.l0] at H
      by_cases c3 : x5_1 < (l0.length : Int)
      · rw [if_pos c3] at H
        have c3b0 : decide (x5_1 < (l0.length : Int)) = true := decide_eq_true c3
        clear c3
        by_cases c4 : 0 ≤ x5_1
        · rw [if_pos c4] at H
          have c4b0 : decide (0 ≤ x5_1) = true := decide_eq_true c4
          clear c4
          by_cases c5 : (rd l0 x5_1) = a1
          · rw [if_pos c5] at H
            have c5b0 : ((rd l0 x5_1) == a1) = true := beq_iff_eq.mpr c5
            have c5b1 : ((rd l0 x5_1) != a1) = false := bne_eq_false_iff_eq.mpr c5
            clear c5
            obtain rfl := Option.some.inj H
            have p157 : 0 ≤ (x5_1 : Int) := of_decide_eq_true (by first | (with_reducible assumption) | assumption)
            have q157 : x5_1 < (l0.length : Int) := of_decide_eq_true (by first | (with_reducible assumption) | assumption)
            obtain ⟨ad157, e157, hx157_0⟩ := Kd.at_int HR0.out x5_1 p157 q157
            cases e157
            replace p157 := eq_true p157
            replace q157 := eq_true q157
            go_wp2
            go_ret
            exact ⟨by first | rfl | (simp; done) | (simp [*]; done), by repeat (first | exact Drawn0.refl _ | apply Drawn0.step)⟩
          · rw [if_neg c5] at H
            have c5b0 : ((rd l0 x5_1) == a1) = false := beq_eq_false_iff_ne.mpr c5
            have c5b1 : ((rd l0 x5_1) != a1) = true := bne_iff_ne.mpr c5
            have H' := Aside0.mk H
            clear H
            have p157 : 0 ≤ (x5_1 : Int) := of_decide_eq_true (by first | (with_reducible assumption) | assumption)
            have q157 : x5_1 < (l0.length : Int) := of_decide_eq_true (by first | (with_reducible assumption) | assumption)
            obtain ⟨ad157, e157, hx157_0⟩ := Kd.at_int HR0.out x5_1 p157 q157
            cases e157
            replace p157 := eq_true p157
            replace q157 := eq_true q157
            go_wp2
            go_roundg k1
            case measure => have := HK1.out; omega
            case rel => exact ⟨(wrap64 (x5_1 + 1)), (by first | rfl | (simp; done) | (simp [*]; done) | (simp [*, wrap64]; done) | (simp [*]; unfold wrap64; omega)), H', ⟨by have := HK1.out; omega⟩, by repeat (first | exact Drawn0.refl _ | apply Drawn0.step)⟩
        · rw [if_neg c4] at H
          exact absurd H (by simp)
      · rw [if_neg c3] at H
        have c3b0 : decide (x5_1 < (l0.length : Int)) = false := decide_eq_false c3
        clear c3
        obtain rfl := Option.some.inj H
        go_wp2
        go_ret
        exact ⟨by first | rfl | (simp; done) | (simp [*]; done), by repeat (first | exact Drawn0.refl _ | apply Drawn0.step)⟩

end Go.Proofs.Ytemclhndmcjmmaa.PDomEdges
