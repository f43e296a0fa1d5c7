-- written by wip/print2.py
import Derived.Test.YtojmepkhbebllaaDoorPShowProgsx0
namespace Go.Proofs.YtojmepkhbebllaaDoor.PShowProgs
open Go.RowKit Go.Proofs.YtojmepkhbebllaaDoorW.PrintWords Go.Proofs.YtojmepkhbebllaaDoorW.PrintLast Go.Proofs.YtojmepkhbebllaaDoorW.PrintMore
attribute [local go_sem] max2_int min2_int max_two min_two max_three min_three max_four min_four   -- for this text's walks alone
set_option linter.unusedVariables false
set_option linter.unusedSimpArgs false

/-! ### hallmarkref04_Fields: function 43 -/
mutual
def hallmarkref04_Fields.j0 : Nat → Int → Bool → Option (ByteArray)
 | 0, _, _ => none
 | k + 1, x3, x4 => if x4 = true then (some (⟨#[78]⟩ : ByteArray)) else (if x3 = 2 then (some (⟨#[83]⟩ : ByteArray)) else (if x3 = 3 then (hallmarkref04_Fields.j1 k x3 (x3 == 3)) else (hallmarkref04_Fields.j1 k x3 (x3 == 11))))
def hallmarkref04_Fields.j1 : Nat → Int → Bool → Option (ByteArray)
 | 0, _, _ => none
 | k + 1, x3, x9 => if x9 = true then (some (⟨#[78, 65, 66]⟩ : ByteArray)) else (if x3 = 4 then (hallmarkref04_Fields.j2 k x3 (x3 == 4)) else (if x3 = 6 then (hallmarkref04_Fields.j2 k x3 (x3 == 6)) else (if x3 = 13 then (hallmarkref04_Fields.j2 k x3 (x3 == 13)) else (if x3 = 14 then (hallmarkref04_Fields.j2 k x3 (x3 == 14)) else (if x3 = 20 then (hallmarkref04_Fields.j2 k x3 (x3 == 20)) else (if x3 = 22 then (hallmarkref04_Fields.j2 k x3 (x3 == 22)) else (hallmarkref04_Fields.j2 k x3 (x3 == 25))))))))
def hallmarkref04_Fields.j2 : Nat → Int → Bool → Option (ByteArray)
 | 0, _, _ => none
 | k + 1, x3, x12 => if x12 = true then (some (⟨#[65]⟩ : ByteArray)) else (if x3 = 5 then (hallmarkref04_Fields.j3 k x3 (x3 == 5)) else (if x3 = 7 then (hallmarkref04_Fields.j3 k x3 (x3 == 7)) else (if x3 = 8 then (hallmarkref04_Fields.j3 k x3 (x3 == 8)) else (if x3 = 15 then (hallmarkref04_Fields.j3 k x3 (x3 == 15)) else (if x3 = 19 then (hallmarkref04_Fields.j3 k x3 (x3 == 19)) else (hallmarkref04_Fields.j3 k x3 (x3 == 21)))))))
def hallmarkref04_Fields.j3 : Nat → Int → Bool → Option (ByteArray)
 | 0, _, _ => none
 | k + 1, x3, x20 => if x20 = true then (some (⟨#[65, 66]⟩ : ByteArray)) else (if x3 = 9 then (some (⟨#[78, 76, 75]⟩ : ByteArray)) else (if x3 = 10 then (some (⟨#[78, 65]⟩ : ByteArray)) else (if x3 = 12 then (some (⟨#[78, 75]⟩ : ByteArray)) else (if x3 = 16 then (hallmarkref04_Fields.j4 k x3 (x3 == 16)) else (hallmarkref04_Fields.j4 k x3 (x3 == 18))))))
def hallmarkref04_Fields.j4 : Nat → Int → Bool → Option (ByteArray)
 | 0, _, _ => none
 | k + 1, x3, x33 => if x33 = true then (some (⟨#[65, 66, 67]⟩ : ByteArray)) else (if x3 = 17 then (some (⟨#[75]⟩ : ByteArray)) else (if x3 = 23 then (some (⟨#[78, 76]⟩ : ByteArray)) else (if x3 = 24 then (some (⟨#[78, 65, 76]⟩ : ByteArray)) else (some (⟨#[]⟩ : ByteArray)))))
end
def hallmarkref04_Fields.f (k : Nat) (a0 : Int) : Option (ByteArray) := if a0 = 0 then (hallmarkref04_Fields.j0 k a0 (a0 == 0)) else (hallmarkref04_Fields.j0 k a0 (a0 == 1))
theorem hallmarkref04_Fields.mono_l : ∀ k, (∀ y0 y1, LeO (hallmarkref04_Fields.j0 k y0 y1) (hallmarkref04_Fields.j0 (k + 1) y0 y1)) ∧ (∀ y0 y1, LeO (hallmarkref04_Fields.j1 k y0 y1) (hallmarkref04_Fields.j1 (k + 1) y0 y1)) ∧ (∀ y0 y1, LeO (hallmarkref04_Fields.j2 k y0 y1) (hallmarkref04_Fields.j2 (k + 1) y0 y1)) ∧ (∀ y0 y1, LeO (hallmarkref04_Fields.j3 k y0 y1) (hallmarkref04_Fields.j3 (k + 1) y0 y1)) ∧ (∀ y0 y1, LeO (hallmarkref04_Fields.j4 k y0 y1) (hallmarkref04_Fields.j4 (k + 1) y0 y1))
 | 0 => ⟨fun _ _ r h => by simp [hallmarkref04_Fields.j0] at h, fun _ _ r h => by simp [hallmarkref04_Fields.j1] at h, fun _ _ r h => by simp [hallmarkref04_Fields.j2] at h, fun _ _ r h => by simp [hallmarkref04_Fields.j3] at h, fun _ _ r h => by simp [hallmarkref04_Fields.j4] at h⟩
 | k + 1 => by
  obtain ⟨ih0, ih1, ih2, ih3, ih4⟩ := hallmarkref04_Fields.mono_l k
  refine ⟨?_, ?_, ?_, ?_, ?_⟩
  ·intro y0 y1
   unfold hallmarkref04_Fields.j0
   repeat' first
   | (with_reducible exact ih0 _ _)
   | (with_reducible exact ih1 _ _)
   | (with_reducible exact ih2 _ _)
   | (with_reducible exact ih3 _ _)
   | (with_reducible exact ih4 _ _)
   | (with_reducible exact LeO.refl _)
   | (with_reducible exact LeO.none _)
   | (with_reducible refine LeO.ite ?_ ?_)
   | (with_reducible refine LeO.bind ?_ (fun _ => ?_))
   | exact ih0 _ _
   | exact ih1 _ _
   | exact ih2 _ _
   | exact ih3 _ _
   | exact ih4 _ _
   | exact LeO.none _
   | refine LeO.ite ?_ ?_
   | refine LeO.bind ?_ (fun _ => ?_)
  ·intro y0 y1
   unfold hallmarkref04_Fields.j1
   repeat' first
   | (with_reducible exact ih0 _ _)
   | (with_reducible exact ih1 _ _)
   | (with_reducible exact ih2 _ _)
   | (with_reducible exact ih3 _ _)
   | (with_reducible exact ih4 _ _)
   | (with_reducible exact LeO.refl _)
   | (with_reducible exact LeO.none _)
   | (with_reducible refine LeO.ite ?_ ?_)
   | (with_reducible refine LeO.bind ?_ (fun _ => ?_))
   | exact ih0 _ _
   | exact ih1 _ _
   | exact ih2 _ _
   | exact ih3 _ _
   | exact ih4 _ _
   | exact LeO.none _
   | refine LeO.ite ?_ ?_
   | refine LeO.bind ?_ (fun _ => ?_)
  ·intro y0 y1
   unfold hallmarkref04_Fields.j2
   repeat' first
   | (with_reducible exact ih0 _ _)
   | (with_reducible exact ih1 _ _)
   | (with_reducible exact ih2 _ _)
   | (with_reducible exact ih3 _ _)
   | (with_reducible exact ih4 _ _)
   | (with_reducible exact LeO.refl _)
   | (with_reducible exact LeO.none _)
   | (with_reducible refine LeO.ite ?_ ?_)
   | (with_reducible refine LeO.bind ?_ (fun _ => ?_))
   | exact ih0 _ _
   | exact ih1 _ _
   | exact ih2 _ _
   | exact ih3 _ _
   | exact ih4 _ _
   | exact LeO.none _
   | refine LeO.ite ?_ ?_
   | refine LeO.bind ?_ (fun _ => ?_)
  ·intro y0 y1
   unfold hallmarkref04_Fields.j3
   repeat' first
   | (with_reducible exact ih0 _ _)
   | (with_reducible exact ih1 _ _)
   | (with_reducible exact ih2 _ _)
   | (with_reducible exact ih3 _ _)
   | (with_reducible exact ih4 _ _)
   | (with_reducible exact LeO.refl _)
   | (with_reducible exact LeO.none _)
   | (with_reducible refine LeO.ite ?_ ?_)
   | (with_reducible refine LeO.bind ?_ (fun _ => ?_))
   | exact ih0 _ _
   | exact ih1 _ _
   | exact ih2 _ _
   | exact ih3 _ _
   | exact ih4 _ _
   | exact LeO.none _
   | refine LeO.ite ?_ ?_
   | refine LeO.bind ?_ (fun _ => ?_)
  ·intro y0 y1
   unfold hallmarkref04_Fields.j4
   repeat' first
   | (with_reducible exact ih0 _ _)
   | (with_reducible exact ih1 _ _)
   | (with_reducible exact ih2 _ _)
   | (with_reducible exact ih3 _ _)
   | (with_reducible exact ih4 _ _)
   | (with_reducible exact LeO.refl _)
   | (with_reducible exact LeO.none _)
   | (with_reducible refine LeO.ite ?_ ?_)
   | (with_reducible refine LeO.bind ?_ (fun _ => ?_))
   | exact ih0 _ _
   | exact ih1 _ _
   | exact ih2 _ _
   | exact ih3 _ _
   | exact ih4 _ _
   | exact LeO.none _
   | refine LeO.ite ?_ ?_
   | refine LeO.bind ?_ (fun _ => ?_)
theorem hallmarkref04_Fields.mono : ∀ a0 k, LeO (hallmarkref04_Fields.f k a0) (hallmarkref04_Fields.f (k + 1) a0) := by
 intro a0 k
 obtain ⟨ih0, ih1, ih2, ih3, ih4⟩ := hallmarkref04_Fields.mono_l k
 unfold hallmarkref04_Fields.f
 repeat' first
   | (with_reducible exact ih0 _ _)
   | (with_reducible exact ih1 _ _)
   | (with_reducible exact ih2 _ _)
   | (with_reducible exact ih3 _ _)
   | (with_reducible exact ih4 _ _)
   | (with_reducible exact LeO.refl _)
   | (with_reducible exact LeO.none _)
   | (with_reducible refine LeO.ite ?_ ?_)
   | (with_reducible refine LeO.bind ?_ (fun _ => ?_))
   | exact ih0 _ _
   | exact ih1 _ _
   | exact ih2 _ _
   | exact ih3 _ _
   | exact ih4 _ _
   | exact LeO.none _
   | refine LeO.ite ?_ ?_
   | refine LeO.bind ?_ (fun _ => ?_)
set_option maxHeartbeats 8000000 in
set_option maxRecDepth 100000 in
theorem hallmarkref04_Fields.calls (k : Nat) (a0 : Int) (r : ByteArray) (w : World) (h : hallmarkref04_Fields.f k a0 = some r) :
  Calls Tryd.prog 43 #[.int .i64 a0] w fun e w' => e = .returned (.string r) ∧ Drawn0 w w' := by
 have H : (if a0 = 0 then (hallmarkref04_Fields.j0 k a0 (a0 == 0)) else (hallmarkref04_Fields.j0 k a0 (a0 == 1))) = some r := h
 clear h
 have HC2 := zm H
 clear H
 go_enter Tryd.func43, Tryd.ntmps43
 go_upto_if 4 with (fail)
 go_cut [4] (fun v4 wc => ∃ (kq : Nat) (x4_1 : Bool), v4 = .bool x4_1 ∧ Aside0 (hallmarkref04_Fields.j0 kq a0 x4_1 = some r) ∧ Aside0 (kq ≤ k) ∧ Drawn0 w wc)
 case first =>
  have H := HC2.out
  clear HC2
  by_cases c3 : a0 = 0
  ·rw [if_pos c3] at H
   have c3b0 : (a0 == 0) = true := beq_iff_eq.mpr c3
   have c3b1 : (a0 != 0) = false := bne_eq_false_iff_eq.mpr c3
   clear c3
   (first | rw [c3b0] | (simp only [i64_w, i32_w]; rw [c3b0]) | rw [c3b1] | skip)
   have H' := zm H
   clear H
   go_wp2
   go_meet
   case rel => exact ⟨_, ((a0 == 0)), (by first | rfl | (simp; done) | (simp [*]; done) | (simp [*, wrap64]; done) | (simp [*]; unfold wrap64; omega)), H', ⟨by first | omega | exact Nat.le_refl _⟩, by repeat (first | exact Drawn0.refl _ | apply Drawn0.step)⟩
  ·rw [if_neg c3] at H
   have c3b0 : (a0 == 0) = false := beq_eq_false_iff_ne.mpr c3
   have c3b1 : (a0 != 0) = true := bne_iff_ne.mpr c3
   (first | rw [c3b0] | (simp only [i64_w, i32_w]; rw [c3b0]) | rw [c3b1] | skip)
   have H' := zm H
   clear H
   go_wp2
   go_meet
   case rel => exact ⟨_, ((a0 == 1)), (by first | rfl | (simp; done) | (simp [*]; done) | (simp [*, wrap64]; done) | (simp [*]; unfold wrap64; omega)), H', ⟨by first | omega | exact Nat.le_refl _⟩, by repeat (first | exact Drawn0.refl _ | apply Drawn0.step)⟩
 case rest =>
  clear HC2
  try clear p2
  try clear c3
  try clear c3b0
  try clear c3b1
  obtain ⟨kq, x4_1, rfl, HA, HJ1, ⟨mc1, rfl⟩⟩ := hcut
  cases kq with
  | zero => exact absurd HA.out (by simp [hallmarkref04_Fields.j0])
  | succ kj1 =>
   have H := HA.out
   clear HA
   simp only [hallmarkref04_Fields.j0] at H
   by_cases c4 : x4_1 = true
   ·subst c4
    have H1 : (some (⟨#[78]⟩ : ByteArray)) = some r := by rw [if_pos rfl] at H; exact H
    clear H
    have H := H1
    clear H1
    obtain rfl := Option.some.inj H
    go_wp2
    go_ret
    exact ⟨by first | rfl | (simp; done) | (simp [*]; done), by repeat (first | exact Drawn0.refl _ | apply Drawn0.step)⟩
   ·replace c4 := Bool.eq_false_iff.mpr c4
    subst c4
    have H1 : (if a0 = 2 then (some (⟨#[83]⟩ : ByteArray)) else (if a0 = 3 then (hallmarkref04_Fields.j1 kj1 a0 (a0 == 3)) else (hallmarkref04_Fields.j1 kj1 a0 (a0 == 11)))) = some r := by rw [if_neg (show ¬ (false = true) by decide)] at H; exact H
    clear H
    have H := H1
    clear H1
    by_cases c5 : a0 = 2
    ·rw [if_pos c5] at H
     have c5b0 : (a0 == 2) = true := beq_iff_eq.mpr c5
     have c5b1 : (a0 != 2) = false := bne_eq_false_iff_eq.mpr c5
     clear c5
     obtain rfl := Option.some.inj H
     go_wp2
     go_ret
     exact ⟨by first | rfl | (simp; done) | (simp [*]; done), by repeat (first | exact Drawn0.refl _ | apply Drawn0.step)⟩
    ·rw [if_neg c5] at H
     have c5b0 : (a0 == 2) = false := beq_eq_false_iff_ne.mpr c5
     have c5b1 : (a0 != 2) = true := bne_iff_ne.mpr c5
     have HC6 := zm H
     clear H
     go_upto_if 9 with (fail)
     go_cut [9] (fun v9 wc => ∃ (kq : Nat) (x9_5 : Bool), v9 = .bool x9_5 ∧ Aside0 (hallmarkref04_Fields.j1 kq a0 x9_5 = some r) ∧ Aside0 (kq ≤ kj1) ∧ Drawn0 w wc)
     case first =>
      have H := HC6.out
      clear HC6
      by_cases c7 : a0 = 3
      ·rw [if_pos c7] at H
       have c7b0 : (a0 == 3) = true := beq_iff_eq.mpr c7
       have c7b1 : (a0 != 3) = false := bne_eq_false_iff_eq.mpr c7
       clear c7
       (first | rw [c7b0] | (simp only [i64_w, i32_w]; rw [c7b0]) | rw [c7b1] | skip)
       have H' := zm H
       clear H
       go_wp2
       go_meet
       case rel => exact ⟨_, ((a0 == 3)), (by first | rfl | (simp; done) | (simp [*]; done) | (simp [*, wrap64]; done) | (simp [*]; unfold wrap64; omega)), H', ⟨by have := HJ1.out; first | omega | exact Nat.le_refl _⟩, by repeat (first | exact Drawn0.refl _ | apply Drawn0.step)⟩
      ·rw [if_neg c7] at H
       have c7b0 : (a0 == 3) = false := beq_eq_false_iff_ne.mpr c7
       have c7b1 : (a0 != 3) = true := bne_iff_ne.mpr c7
       (first | rw [c7b0] | (simp only [i64_w, i32_w]; rw [c7b0]) | rw [c7b1] | skip)
       have H' := zm H
       clear H
       go_wp2
       go_meet
       case rel => exact ⟨_, ((a0 == 11)), (by first | rfl | (simp; done) | (simp [*]; done) | (simp [*, wrap64]; done) | (simp [*]; unfold wrap64; omega)), H', ⟨by have := HJ1.out; first | omega | exact Nat.le_refl _⟩, by repeat (first | exact Drawn0.refl _ | apply Drawn0.step)⟩
     case rest =>
      clear HC6
      try clear c1
      try clear p2
      try clear c3
      try clear c3b0
      try clear c3b1
      try clear c4
      try clear c5
      try clear c5b0
      try clear c5b1
      try clear c7
      try clear c7b0
      try clear c7b1
      try clear p2
      obtain ⟨kq, x9_5, rfl, HA, HJ5, ⟨mc5, rfl⟩⟩ := hcut
      cases kq with
      | zero => exact absurd HA.out (by simp [hallmarkref04_Fields.j1])
      | succ kj5 =>
       have H := HA.out
       clear HA
       simp only [hallmarkref04_Fields.j1] at H
       by_cases c8 : x9_5 = true
       ·subst c8
        have H1 : (some (⟨#[78, 65, 66]⟩ : ByteArray)) = some r := by rw [if_pos rfl] at H; exact H
        clear H
        have H := H1
        clear H1
        obtain rfl := Option.some.inj H
        go_wp2
        go_ret
        exact ⟨by first | rfl | (simp; done) | (simp [*]; done), by repeat (first | exact Drawn0.refl _ | apply Drawn0.step)⟩
       ·replace c8 := Bool.eq_false_iff.mpr c8
        subst c8
        have H1 : (if a0 = 4 then (hallmarkref04_Fields.j2 kj5 a0 (a0 == 4)) else (if a0 = 6 then (hallmarkref04_Fields.j2 kj5 a0 (a0 == 6)) else (if a0 = 13 then (hallmarkref04_Fields.j2 kj5 a0 (a0 == 13)) else (if a0 = 14 then (hallmarkref04_Fields.j2 kj5 a0 (a0 == 14)) else (if a0 = 20 then (hallmarkref04_Fields.j2 kj5 a0 (a0 == 20)) else (if a0 = 22 then (hallmarkref04_Fields.j2 kj5 a0 (a0 == 22)) else (hallmarkref04_Fields.j2 kj5 a0 (a0 == 25)))))))) = some r := by rw [if_neg (show ¬ (false = true) by decide)] at H; exact H
        clear H
        have H := H1
        clear H1
        have HC9 := zm H
        clear H
        go_upto_if 12 with (fail)
        go_cut [12] (fun v12 wc => ∃ (kq : Nat) (x12_8 : Bool), v12 = .bool x12_8 ∧ Aside0 (hallmarkref04_Fields.j2 kq a0 x12_8 = some r) ∧ Aside0 (kq ≤ kj5) ∧ Drawn0 w wc)
        case first =>
         have H := HC9.out
         clear HC9
         by_cases c10 : a0 = 4
         ·rw [if_pos c10] at H
          have c10b0 : (a0 == 4) = true := beq_iff_eq.mpr c10
          have c10b1 : (a0 != 4) = false := bne_eq_false_iff_eq.mpr c10
          clear c10
          (first | rw [c10b0] | (simp only [i64_w, i32_w]; rw [c10b0]) | rw [c10b1] | skip)
          have H' := zm H
          clear H
          go_wp2
          go_meet
          case rel => exact ⟨_, ((a0 == 4)), (by first | rfl | (simp; done) | (simp [*]; done) | (simp [*, wrap64]; done) | (simp [*]; unfold wrap64; omega)), H', ⟨by have := HJ1.out; have := HJ5.out; first | omega | exact Nat.le_refl _⟩, by repeat (first | exact Drawn0.refl _ | apply Drawn0.step)⟩
         ·rw [if_neg c10] at H
          have c10b0 : (a0 == 4) = false := beq_eq_false_iff_ne.mpr c10
          have c10b1 : (a0 != 4) = true := bne_iff_ne.mpr c10
          (first | rw [c10b0] | (simp only [i64_w, i32_w]; rw [c10b0]) | rw [c10b1] | skip)
          by_cases c11 : a0 = 6
          ·rw [if_pos c11] at H
           have c11b0 : (a0 == 6) = true := beq_iff_eq.mpr c11
           have c11b1 : (a0 != 6) = false := bne_eq_false_iff_eq.mpr c11
           clear c11
           have H' := zm H
           clear H
           go_wp2
           go_meet
           case rel => exact ⟨_, ((a0 == 6)), (by first | rfl | (simp; done) | (simp [*]; done) | (simp [*, wrap64]; done) | (simp [*]; unfold wrap64; omega)), H', ⟨by have := HJ1.out; have := HJ5.out; first | omega | exact Nat.le_refl _⟩, by repeat (first | exact Drawn0.refl _ | apply Drawn0.step)⟩
          ·rw [if_neg c11] at H
           have c11b0 : (a0 == 6) = false := beq_eq_false_iff_ne.mpr c11
           have c11b1 : (a0 != 6) = true := bne_iff_ne.mpr c11
           by_cases c12 : a0 = 13
           ·rw [if_pos c12] at H
            have c12b0 : (a0 == 13) = true := beq_iff_eq.mpr c12
            have c12b1 : (a0 != 13) = false := bne_eq_false_iff_eq.mpr c12
            clear c12
            have H' := zm H
            clear H
            go_wp2
            go_meet
            case rel => exact ⟨_, ((a0 == 13)), (by first | rfl | (simp; done) | (simp [*]; done) | (simp [*, wrap64]; done) | (simp [*]; unfold wrap64; omega)), H', ⟨by have := HJ1.out; have := HJ5.out; first | omega | exact Nat.le_refl _⟩, by repeat (first | exact Drawn0.refl _ | apply Drawn0.step)⟩
           ·rw [if_neg c12] at H
            have c12b0 : (a0 == 13) = false := beq_eq_false_iff_ne.mpr c12
            have c12b1 : (a0 != 13) = true := bne_iff_ne.mpr c12
            by_cases c13 : a0 = 14
            ·rw [if_pos c13] at H
             have c13b0 : (a0 == 14) = true := beq_iff_eq.mpr c13
             have c13b1 : (a0 != 14) = false := bne_eq_false_iff_eq.mpr c13
             clear c13
             have H' := zm H
             clear H
             go_wp2
             go_meet
             case rel => exact ⟨_, ((a0 == 14)), (by first | rfl | (simp; done) | (simp [*]; done) | (simp [*, wrap64]; done) | (simp [*]; unfold wrap64; omega)), H', ⟨by have := HJ1.out; have := HJ5.out; first | omega | exact Nat.le_refl _⟩, by repeat (first | exact Drawn0.refl _ | apply Drawn0.step)⟩
            ·rw [if_neg c13] at H
             have c13b0 : (a0 == 14) = false := beq_eq_false_iff_ne.mpr c13
             have c13b1 : (a0 != 14) = true := bne_iff_ne.mpr c13
             by_cases c14 : a0 = 20
             ·rw [if_pos c14] at H
              have c14b0 : (a0 == 20) = true := beq_iff_eq.mpr c14
              have c14b1 : (a0 != 20) = false := bne_eq_false_iff_eq.mpr c14
              clear c14
              have H' := zm H
              clear H
              go_wp2
              go_meet
              case rel => exact ⟨_, ((a0 == 20)), (by first | rfl | (simp; done) | (simp [*]; done) | (simp [*, wrap64]; done) | (simp [*]; unfold wrap64; omega)), H', ⟨by have := HJ1.out; have := HJ5.out; first | omega | exact Nat.le_refl _⟩, by repeat (first | exact Drawn0.refl _ | apply Drawn0.step)⟩
             ·rw [if_neg c14] at H
              have c14b0 : (a0 == 20) = false := beq_eq_false_iff_ne.mpr c14
              have c14b1 : (a0 != 20) = true := bne_iff_ne.mpr c14
              by_cases c15 : a0 = 22
              ·rw [if_pos c15] at H
               have c15b0 : (a0 == 22) = true := beq_iff_eq.mpr c15
               have c15b1 : (a0 != 22) = false := bne_eq_false_iff_eq.mpr c15
               clear c15
               have H' := zm H
               clear H
               go_wp2
               go_meet
               case rel => exact ⟨_, ((a0 == 22)), (by first | rfl | (simp; done) | (simp [*]; done) | (simp [*, wrap64]; done) | (simp [*]; unfold wrap64; omega)), H', ⟨by have := HJ1.out; have := HJ5.out; first | omega | exact Nat.le_refl _⟩, by repeat (first | exact Drawn0.refl _ | apply Drawn0.step)⟩
              ·rw [if_neg c15] at H
               have c15b0 : (a0 == 22) = false := beq_eq_false_iff_ne.mpr c15
               have c15b1 : (a0 != 22) = true := bne_iff_ne.mpr c15
               have H' := zm H
               clear H
               go_wp2
               go_meet
               case rel => exact ⟨_, ((a0 == 25)), (by first | rfl | (simp; done) | (simp [*]; done) | (simp [*, wrap64]; done) | (simp [*]; unfold wrap64; omega)), H', ⟨by have := HJ1.out; have := HJ5.out; first | omega | exact Nat.le_refl _⟩, by repeat (first | exact Drawn0.refl _ | apply Drawn0.step)⟩
        case rest =>
         clear HC9
         try clear c1
         try clear p2
         try clear c3
         try clear c3b0
         try clear c3b1
         try clear c4
         try clear c5
         try clear c5b0
         try clear c5b1
         try clear c7
         try clear c7b0
         try clear c7b1
         try clear c8
         try clear c10
         try clear c10b0
         try clear c10b1
         try clear c11
         try clear c11b0
         try clear c11b1
         try clear c12
         try clear c12b0
         try clear c12b1
         try clear c13
         try clear c13b0
         try clear c13b1
         try clear c14
         try clear c14b0
         try clear c14b1
         try clear c15
         try clear c15b0
         try clear c15b1
         try clear p2
         obtain ⟨kq, x12_8, rfl, HA, HJ8, ⟨mc8, rfl⟩⟩ := hcut
         cases kq with
         | zero => exact absurd HA.out (by simp [hallmarkref04_Fields.j2])
         | succ kj8 =>
          have H := HA.out
          clear HA
          simp only [hallmarkref04_Fields.j2] at H
          by_cases c16 : x12_8 = true
          ·subst c16
           have H1 : (some (⟨#[65]⟩ : ByteArray)) = some r := by rw [if_pos rfl] at H; exact H
           clear H
           have H := H1
           clear H1
           obtain rfl := Option.some.inj H
           go_wp2
           go_ret
           exact ⟨by first | rfl | (simp; done) | (simp [*]; done), by repeat (first | exact Drawn0.refl _ | apply Drawn0.step)⟩
          ·replace c16 := Bool.eq_false_iff.mpr c16
           subst c16
           have H1 : (if a0 = 5 then (hallmarkref04_Fields.j3 kj8 a0 (a0 == 5)) else (if a0 = 7 then (hallmarkref04_Fields.j3 kj8 a0 (a0 == 7)) else (if a0 = 8 then (hallmarkref04_Fields.j3 kj8 a0 (a0 == 8)) else (if a0 = 15 then (hallmarkref04_Fields.j3 kj8 a0 (a0 == 15)) else (if a0 = 19 then (hallmarkref04_Fields.j3 kj8 a0 (a0 == 19)) else (hallmarkref04_Fields.j3 kj8 a0 (a0 == 21))))))) = some r := by rw [if_neg (show ¬ (false = true) by decide)] at H; exact H
           clear H
           have H := H1
           clear H1
           have HC17 := zm H
           clear H
           go_upto_if 20 with (fail)
           go_cut [20] (fun v20 wc => ∃ (kq : Nat) (x20_16 : Bool), v20 = .bool x20_16 ∧ Aside0 (hallmarkref04_Fields.j3 kq a0 x20_16 = some r) ∧ Aside0 (kq ≤ kj8) ∧ Drawn0 w wc)
           case first =>
            have H := HC17.out
            clear HC17
            by_cases c18 : a0 = 5
            ·rw [if_pos c18] at H
             have c18b0 : (a0 == 5) = true := beq_iff_eq.mpr c18
             have c18b1 : (a0 != 5) = false := bne_eq_false_iff_eq.mpr c18
             clear c18
             (first | rw [c18b0] | (simp only [i64_w, i32_w]; rw [c18b0]) | rw [c18b1] | skip)
             have H' := zm H
             clear H
             go_wp2
             go_meet
             case rel => exact ⟨_, ((a0 == 5)), (by first | rfl | (simp; done) | (simp [*]; done) | (simp [*, wrap64]; done) | (simp [*]; unfold wrap64; omega)), H', ⟨by have := HJ1.out; have := HJ5.out; have := HJ8.out; first | omega | exact Nat.le_refl _⟩, by repeat (first | exact Drawn0.refl _ | apply Drawn0.step)⟩
            ·rw [if_neg c18] at H
             have c18b0 : (a0 == 5) = false := beq_eq_false_iff_ne.mpr c18
             have c18b1 : (a0 != 5) = true := bne_iff_ne.mpr c18
             (first | rw [c18b0] | (simp only [i64_w, i32_w]; rw [c18b0]) | rw [c18b1] | skip)
             by_cases c19 : a0 = 7
             ·rw [if_pos c19] at H
              have c19b0 : (a0 == 7) = true := beq_iff_eq.mpr c19
              have c19b1 : (a0 != 7) = false := bne_eq_false_iff_eq.mpr c19
              clear c19
              have H' := zm H
              clear H
              go_wp2
              go_meet
              case rel => exact ⟨_, ((a0 == 7)), (by first | rfl | (simp; done) | (simp [*]; done) | (simp [*, wrap64]; done) | (simp [*]; unfold wrap64; omega)), H', ⟨by have := HJ1.out; have := HJ5.out; have := HJ8.out; first | omega | exact Nat.le_refl _⟩, by repeat (first | exact Drawn0.refl _ | apply Drawn0.step)⟩
             ·rw [if_neg c19] at H
              have c19b0 : (a0 == 7) = false := beq_eq_false_iff_ne.mpr c19
              have c19b1 : (a0 != 7) = true := bne_iff_ne.mpr c19
              by_cases c20 : a0 = 8
              ·rw [if_pos c20] at H
               have c20b0 : (a0 == 8) = true := beq_iff_eq.mpr c20
               have c20b1 : (a0 != 8) = false := bne_eq_false_iff_eq.mpr c20
               clear c20
               have H' := zm H
               clear H
               go_wp2
               go_meet
               case rel => exact ⟨_, ((a0 == 8)), (by first | rfl | (simp; done) | (simp [*]; done) | (simp [*, wrap64]; done) | (simp [*]; unfold wrap64; omega)), H', ⟨by have := HJ1.out; have := HJ5.out; have := HJ8.out; first | omega | exact Nat.le_refl _⟩, by repeat (first | exact Drawn0.refl _ | apply Drawn0.step)⟩
              ·rw [if_neg c20] at H
               have c20b0 : (a0 == 8) = false := beq_eq_false_iff_ne.mpr c20
               have c20b1 : (a0 != 8) = true := bne_iff_ne.mpr c20
               by_cases c21 : a0 = 15
               ·rw [if_pos c21] at H
                have c21b0 : (a0 == 15) = true := beq_iff_eq.mpr c21
                have c21b1 : (a0 != 15) = false := bne_eq_false_iff_eq.mpr c21
                clear c21
                have H' := zm H
                clear H
                go_wp2
                go_meet
                case rel => exact ⟨_, ((a0 == 15)), (by first | rfl | (simp; done) | (simp [*]; done) | (simp [*, wrap64]; done) | (simp [*]; unfold wrap64; omega)), H', ⟨by have := HJ1.out; have := HJ5.out; have := HJ8.out; first | omega | exact Nat.le_refl _⟩, by repeat (first | exact Drawn0.refl _ | apply Drawn0.step)⟩
               ·rw [if_neg c21] at H
                have c21b0 : (a0 == 15) = false := beq_eq_false_iff_ne.mpr c21
                have c21b1 : (a0 != 15) = true := bne_iff_ne.mpr c21
                by_cases c22 : a0 = 19
                ·rw [if_pos c22] at H
                 have c22b0 : (a0 == 19) = true := beq_iff_eq.mpr c22
                 have c22b1 : (a0 != 19) = false := bne_eq_false_iff_eq.mpr c22
                 clear c22
                 have H' := zm H
                 clear H
                 go_wp2
                 go_meet
                 case rel => exact ⟨_, ((a0 == 19)), (by first | rfl | (simp; done) | (simp [*]; done) | (simp [*, wrap64]; done) | (simp [*]; unfold wrap64; omega)), H', ⟨by have := HJ1.out; have := HJ5.out; have := HJ8.out; first | omega | exact Nat.le_refl _⟩, by repeat (first | exact Drawn0.refl _ | apply Drawn0.step)⟩
                ·rw [if_neg c22] at H
                 have c22b0 : (a0 == 19) = false := beq_eq_false_iff_ne.mpr c22
                 have c22b1 : (a0 != 19) = true := bne_iff_ne.mpr c22
                 have H' := zm H
                 clear H
                 go_wp2
                 go_meet
                 case rel => exact ⟨_, ((a0 == 21)), (by first | rfl | (simp; done) | (simp [*]; done) | (simp [*, wrap64]; done) | (simp [*]; unfold wrap64; omega)), H', ⟨by have := HJ1.out; have := HJ5.out; have := HJ8.out; first | omega | exact Nat.le_refl _⟩, by repeat (first | exact Drawn0.refl _ | apply Drawn0.step)⟩
           case rest =>
            clear HC17
            try clear c1
            try clear c2
            try clear p2
            try clear c3
            try clear c3b0
            try clear c3b1
            try clear c4
            try clear c5
            try clear c5b0
            try clear c5b1
            try clear c7
            try clear c7b0
            try clear c7b1
            try clear c8
            try clear c10
            try clear c10b0
            try clear c10b1
            try clear c11
            try clear c11b0
            try clear c11b1
            try clear c12
            try clear c12b0
            try clear c12b1
            try clear c13
            try clear c13b0
            try clear c13b1
            try clear c14
            try clear c14b0
            try clear c14b1
            try clear c15
            try clear c15b0
            try clear c15b1
            try clear c16
            try clear c18
            try clear c18b0
            try clear c18b1
            try clear c19
            try clear c19b0
            try clear c19b1
            try clear c20
            try clear c20b0
            try clear c20b1
            try clear c21
            try clear c21b0
            try clear c21b1
            try clear c22
            try clear c22b0
            try clear c22b1
            try clear p2
            obtain ⟨kq, x20_16, rfl, HA, HJ16, ⟨mc16, rfl⟩⟩ := hcut
            cases kq with
            | zero => exact absurd HA.out (by simp [hallmarkref04_Fields.j3])
            | succ kj16 =>
             have H := HA.out
             clear HA
             simp only [hallmarkref04_Fields.j3] at H
             by_cases c23 : x20_16 = true
             ·subst c23
              have H1 : (some (⟨#[65, 66]⟩ : ByteArray)) = some r := by rw [if_pos rfl] at H; exact H
              clear H
              have H := H1
              clear H1
              obtain rfl := Option.some.inj H
              go_wp2
              go_ret
              exact ⟨by first | rfl | (simp; done) | (simp [*]; done), by repeat (first | exact Drawn0.refl _ | apply Drawn0.step)⟩
             ·replace c23 := Bool.eq_false_iff.mpr c23
              subst c23
              have H1 : (if a0 = 9 then (some (⟨#[78, 76, 75]⟩ : ByteArray)) else (if a0 = 10 then (some (⟨#[78, 65]⟩ : ByteArray)) else (if a0 = 12 then (some (⟨#[78, 75]⟩ : ByteArray)) else (if a0 = 16 then (hallmarkref04_Fields.j4 kj16 a0 (a0 == 16)) else (hallmarkref04_Fields.j4 kj16 a0 (a0 == 18)))))) = some r := by rw [if_neg (show ¬ (false = true) by decide)] at H; exact H
              clear H
              have H := H1
              clear H1
              by_cases c24 : a0 = 9
              ·rw [if_pos c24] at H
               have c24b0 : (a0 == 9) = true := beq_iff_eq.mpr c24
               have c24b1 : (a0 != 9) = false := bne_eq_false_iff_eq.mpr c24
               clear c24
               obtain rfl := Option.some.inj H
               go_wp2
               go_ret
               exact ⟨by first | rfl | (simp; done) | (simp [*]; done), by repeat (first | exact Drawn0.refl _ | apply Drawn0.step)⟩
              ·rw [if_neg c24] at H
               have c24b0 : (a0 == 9) = false := beq_eq_false_iff_ne.mpr c24
               have c24b1 : (a0 != 9) = true := bne_iff_ne.mpr c24
               by_cases c25 : a0 = 10
               ·rw [if_pos c25] at H
                have c25b0 : (a0 == 10) = true := beq_iff_eq.mpr c25
                have c25b1 : (a0 != 10) = false := bne_eq_false_iff_eq.mpr c25
                clear c25
                obtain rfl := Option.some.inj H
                go_wp2
                go_ret
                exact ⟨by first | rfl | (simp; done) | (simp [*]; done), by repeat (first | exact Drawn0.refl _ | apply Drawn0.step)⟩
               ·rw [if_neg c25] at H
                have c25b0 : (a0 == 10) = false := beq_eq_false_iff_ne.mpr c25
                have c25b1 : (a0 != 10) = true := bne_iff_ne.mpr c25
                by_cases c26 : a0 = 12
                ·rw [if_pos c26] at H
                 have c26b0 : (a0 == 12) = true := beq_iff_eq.mpr c26
                 have c26b1 : (a0 != 12) = false := bne_eq_false_iff_eq.mpr c26
                 clear c26
                 obtain rfl := Option.some.inj H
                 go_wp2
                 go_ret
                 exact ⟨by first | rfl | (simp; done) | (simp [*]; done), by repeat (first | exact Drawn0.refl _ | apply Drawn0.step)⟩
                ·rw [if_neg c26] at H
                 have c26b0 : (a0 == 12) = false := beq_eq_false_iff_ne.mpr c26
                 have c26b1 : (a0 != 12) = true := bne_iff_ne.mpr c26
                 have HC27 := zm H
                 clear H
                 go_upto_if 33 with (fail)
                 go_cut [33] (fun v33 wc => ∃ (kq : Nat) (x33_26 : Bool), v33 = .bool x33_26 ∧ Aside0 (hallmarkref04_Fields.j4 kq a0 x33_26 = some r) ∧ Aside0 (kq ≤ kj16) ∧ Drawn0 w wc)
                 case first =>
                  have H := HC27.out
                  clear HC27
                  by_cases c28 : a0 = 16
                  ·rw [if_pos c28] at H
                   have c28b0 : (a0 == 16) = true := beq_iff_eq.mpr c28
                   have c28b1 : (a0 != 16) = false := bne_eq_false_iff_eq.mpr c28
                   clear c28
                   (first | rw [c28b0] | (simp only [i64_w, i32_w]; rw [c28b0]) | rw [c28b1] | skip)
                   have H' := zm H
                   clear H
                   go_wp2
                   go_meet
                   case rel => exact ⟨_, ((a0 == 16)), (by first | rfl | (simp; done) | (simp [*]; done) | (simp [*, wrap64]; done) | (simp [*]; unfold wrap64; omega)), H', ⟨by have := HJ1.out; have := HJ5.out; have := HJ8.out; have := HJ16.out; first | omega | exact Nat.le_refl _⟩, by repeat (first | exact Drawn0.refl _ | apply Drawn0.step)⟩
                  ·rw [if_neg c28] at H
                   have c28b0 : (a0 == 16) = false := beq_eq_false_iff_ne.mpr c28
                   have c28b1 : (a0 != 16) = true := bne_iff_ne.mpr c28
                   (first | rw [c28b0] | (simp only [i64_w, i32_w]; rw [c28b0]) | rw [c28b1] | skip)
                   have H' := zm H
                   clear H
                   go_wp2
                   go_meet
                   case rel => exact ⟨_, ((a0 == 18)), (by first | rfl | (simp; done) | (simp [*]; done) | (simp [*, wrap64]; done) | (simp [*]; unfold wrap64; omega)), H', ⟨by have := HJ1.out; have := HJ5.out; have := HJ8.out; have := HJ16.out; first | omega | exact Nat.le_refl _⟩, by repeat (first | exact Drawn0.refl _ | apply Drawn0.step)⟩
                 case rest =>
                  clear HC27
                  try clear c1
                  try clear c2
                  try clear p2
                  try clear c3
                  try clear c3b0
                  try clear c3b1
                  try clear c4
                  try clear c5
                  try clear c5b0
                  try clear c5b1
                  try clear c7
                  try clear c7b0
                  try clear c7b1
                  try clear c8
                  try clear c10
                  try clear c10b0
                  try clear c10b1
                  try clear c11
                  try clear c11b0
                  try clear c11b1
                  try clear c12
                  try clear c12b0
                  try clear c12b1
                  try clear c13
                  try clear c13b0
                  try clear c13b1
                  try clear c14
                  try clear c14b0
                  try clear c14b1
                  try clear c15
                  try clear c15b0
                  try clear c15b1
                  try clear c16
                  try clear c18
                  try clear c18b0
                  try clear c18b1
                  try clear c19
                  try clear c19b0
                  try clear c19b1
                  try clear c20
                  try clear c20b0
                  try clear c20b1
                  try clear c21
                  try clear c21b0
                  try clear c21b1
                  try clear c22
                  try clear c22b0
                  try clear c22b1
                  try clear c23
                  try clear c24
                  try clear c24b0
                  try clear c24b1
                  try clear c25
                  try clear c25b0
                  try clear c25b1
                  try clear c26
                  try clear c26b0
                  try clear c26b1
                  try clear c28
                  try clear c28b0
                  try clear c28b1
                  try clear p2
                  obtain ⟨kq, x33_26, rfl, HA, HJ26, ⟨mc26, rfl⟩⟩ := hcut
                  cases kq with
                  | zero => exact absurd HA.out (by simp [hallmarkref04_Fields.j4])
                  | succ kj26 =>
                   have H := HA.out
                   clear HA
                   simp only [hallmarkref04_Fields.j4] at H
                   by_cases c29 : x33_26 = true
                   ·subst c29
                    have H1 : (some (⟨#[65, 66, 67]⟩ : ByteArray)) = some r := by rw [if_pos rfl] at H; exact H
                    clear H
                    have H := H1
                    clear H1
                    obtain rfl := Option.some.inj H
                    go_wp2
                    go_ret
                    exact ⟨by first | rfl | (simp; done) | (simp [*]; done), by repeat (first | exact Drawn0.refl _ | apply Drawn0.step)⟩
                   ·replace c29 := Bool.eq_false_iff.mpr c29
                    subst c29
                    have H1 : (if a0 = 17 then (some (⟨#[75]⟩ : ByteArray)) else (if a0 = 23 then (some (⟨#[78, 76]⟩ : ByteArray)) else (if a0 = 24 then (some (⟨#[78, 65, 76]⟩ : ByteArray)) else (some (⟨#[]⟩ : ByteArray))))) = some r := by rw [if_neg (show ¬ (false = true) by decide)] at H; exact H
                    clear H
                    have H := H1
                    clear H1
                    by_cases c30 : a0 = 17
                    ·rw [if_pos c30] at H
                     have c30b0 : (a0 == 17) = true := beq_iff_eq.mpr c30
                     have c30b1 : (a0 != 17) = false := bne_eq_false_iff_eq.mpr c30
                     clear c30
                     obtain rfl := Option.some.inj H
                     go_wp2
                     go_ret
                     exact ⟨by first | rfl | (simp; done) | (simp [*]; done), by repeat (first | exact Drawn0.refl _ | apply Drawn0.step)⟩
                    ·rw [if_neg c30] at H
                     have c30b0 : (a0 == 17) = false := beq_eq_false_iff_ne.mpr c30
                     have c30b1 : (a0 != 17) = true := bne_iff_ne.mpr c30
                     by_cases c31 : a0 = 23
                     ·rw [if_pos c31] at H
                      have c31b0 : (a0 == 23) = true := beq_iff_eq.mpr c31
                      have c31b1 : (a0 != 23) = false := bne_eq_false_iff_eq.mpr c31
                      clear c31
                      obtain rfl := Option.some.inj H
                      go_wp2
                      go_ret
                      exact ⟨by first | rfl | (simp; done) | (simp [*]; done), by repeat (first | exact Drawn0.refl _ | apply Drawn0.step)⟩
                     ·rw [if_neg c31] at H
                      have c31b0 : (a0 == 23) = false := beq_eq_false_iff_ne.mpr c31
                      have c31b1 : (a0 != 23) = true := bne_iff_ne.mpr c31
                      by_cases c32 : a0 = 24
                      ·rw [if_pos c32] at H
                       have c32b0 : (a0 == 24) = true := beq_iff_eq.mpr c32
                       have c32b1 : (a0 != 24) = false := bne_eq_false_iff_eq.mpr c32
                       clear c32
                       obtain rfl := Option.some.inj H
                       go_wp2
                       go_ret
                       exact ⟨by first | rfl | (simp; done) | (simp [*]; done), by repeat (first | exact Drawn0.refl _ | apply Drawn0.step)⟩
                      ·rw [if_neg c32] at H
                       have c32b0 : (a0 == 24) = false := beq_eq_false_iff_ne.mpr c32
                       have c32b1 : (a0 != 24) = true := bne_iff_ne.mpr c32
                       obtain rfl := Option.some.inj H
                       go_wp2
                       go_ret
                       exact ⟨by first | rfl | (simp; done) | (simp [*]; done), by repeat (first | exact Drawn0.refl _ | apply Drawn0.step)⟩

/-! ### hallmarkref04_Has: function 21 -/
def hallmarkref04_Has.l0 : Nat → Int → ByteArray → Int → Option (Bool)
 | 0, _, _, _ => none
 | k + 1, x1, x5, x6 => if x6 < (x5.size : Int) then (if 0 ≤ x6 then (if (bt x5 x6) = x1 then (some true) else (hallmarkref04_Has.l0 k x1 x5 (wrap64 (x6 + 1)))) else (none)) else (some false)
def hallmarkref04_Has.f (k : Nat) (a0 : Int) (a1 : Int) : Option (Bool) := (hallmarkref04_Fields.f k a0).bind fun t155 => (hallmarkref04_Has.l0 k a1 t155 0)
theorem hallmarkref04_Has.mono_l : ∀ k, (∀ y0 y1 y2, LeO (hallmarkref04_Has.l0 k y0 y1 y2) (hallmarkref04_Has.l0 (k + 1) y0 y1 y2))
 | 0 => fun _ _ _ r h => by simp [hallmarkref04_Has.l0] at h
 | k + 1 => by
  have ih0 := hallmarkref04_Has.mono_l k
  ·intro y0 y1 y2
   unfold hallmarkref04_Has.l0
   repeat' first
   | (with_reducible exact ih0 _ _ _)
   | (with_reducible exact hallmarkref04_Fields.mono _ _)
   | (with_reducible exact LeO.refl _)
   | (with_reducible exact LeO.none _)
   | (with_reducible refine LeO.ite ?_ ?_)
   | (with_reducible refine LeO.bind ?_ (fun _ => ?_))
   | exact ih0 _ _ _
   | exact hallmarkref04_Fields.mono _ _
   | exact LeO.none _
   | refine LeO.ite ?_ ?_
   | refine LeO.bind ?_ (fun _ => ?_)
theorem hallmarkref04_Has.mono : ∀ a0 a1 k, LeO (hallmarkref04_Has.f k a0 a1) (hallmarkref04_Has.f (k + 1) a0 a1) := by
 intro a0 a1 k
 have ih0 := hallmarkref04_Has.mono_l k
 unfold hallmarkref04_Has.f
 repeat' first
   | (with_reducible exact ih0 _ _ _)
   | (with_reducible exact hallmarkref04_Fields.mono _ _)
   | (with_reducible exact LeO.refl _)
   | (with_reducible exact LeO.none _)
   | (with_reducible refine LeO.ite ?_ ?_)
   | (with_reducible refine LeO.bind ?_ (fun _ => ?_))
   | exact ih0 _ _ _
   | exact hallmarkref04_Fields.mono _ _
   | exact LeO.none _
   | refine LeO.ite ?_ ?_
   | refine LeO.bind ?_ (fun _ => ?_)
set_option maxHeartbeats 8000000 in
set_option maxRecDepth 100000 in
theorem hallmarkref04_Has.calls (k : Nat) (a0 : Int) (a1 : Int) (r : Bool) (w : World) (h : hallmarkref04_Has.f k a0 a1 = some r) :
  Calls Tryd.prog 21 #[.int .i64 a0, .int .u8 a1] w fun e w' => e = .returned (.bool r) ∧ Drawn0 w w' := by
 have H : ((hallmarkref04_Fields.f k a0).bind fun t155 => (hallmarkref04_Has.l0 k a1 t155 0)) = some r := h
 clear h
 replace H := Option.bind_eq_some_iff.mp H
 obtain ⟨t155, A30, H⟩ := H
 replace H : (hallmarkref04_Has.l0 k a1 t155 0) = some r := H
 have A3 := zm A30
 clear A30
 have H' := zm H
 clear H
 go_enter Tryd.func21, Tryd.ntmps21
 go_wp2_with (first | ((with_reducible refine gate_callee (f := 43) rfl ?_); refine goesL_ (some 8) rfl rfl Tryd.func43 (by kernel_rfl) rfl #[.int .i64 a0] rfl (by (try simp only [List.map_toArray, List.map_cons, List.map_nil]); first | done | rfl | (simp only [List.length_drop, List.length_take]; rfl)) ?_; (with_reducible refine (hallmarkref04_Fields.calls k a0 t155 _ A3.out).mono ?_); rintro e w' ⟨rfl, ⟨nd, rfl⟩⟩; refine ⟨_, rfl, ?_⟩))
 go_loopg [6] k (fun kq v6 w' => ∃ (x6_1 : Int), v6 = .int .i64 x6_1 ∧ Aside0 (hallmarkref04_Has.l0 kq a1 t155 x6_1 = some r) ∧ Aside0 (kq ≤ k) ∧ Drawn0 w w')
 case atStart => exact ⟨(0), (by first | rfl | (simp; done) | (simp [*]; done) | (simp [*, wrap64]; done) | (simp [*]; unfold wrap64; omega)), H', ⟨Nat.le_refl _⟩, by repeat (first | exact Drawn0.refl _ | apply Drawn0.step)⟩
 case round =>
  clear H'
  try clear c2
  try clear p2
  obtain ⟨x6_1, rfl, HA, HK1, ⟨m1, rfl⟩⟩ := hrel
  cases gk with
  | zero => exact absurd HA.out (by simp [hallmarkref04_Has.l0])
  | succ k1 =>
   have H := HA.out
   clear HA
   simp only [hallmarkref04_Has.l0] at H
   by_cases c4 : x6_1 < (t155.size : Int)
   ·rw [if_pos c4] at H
    have c4b0 : decide (x6_1 < (t155.size : Int)) = true := decide_eq_true c4
    clear c4
    by_cases c5 : 0 ≤ x6_1
    ·rw [if_pos c5] at H
     have c5b0 : decide (0 ≤ x6_1) = true := decide_eq_true c5
     clear c5
     by_cases c7 : (bt t155 x6_1) = a1
     ·rw [if_pos c7] at H
      have c7b0 : ((bt t155 x6_1) == a1) = true := beq_iff_eq.mpr c7
      have c7b1 : ((bt t155 x6_1) != a1) = false := bne_eq_false_iff_eq.mpr c7
      clear c7
      obtain rfl := Option.some.inj H
      have p6 : 0 ≤ (x6_1 : Int) := of_decide_eq_true (by first | (with_reducible assumption) | assumption)
      have q6 : x6_1 < (t155.size : Int) := of_decide_eq_true (by first | (with_reducible assumption) | assumption)
      have hx6 := bt_at t155 x6_1
      replace p6 := eq_true p6
      replace q6 := eq_true q6
      go_wp2
      go_ret
      exact ⟨by first | rfl | (simp; done) | (simp [*]; done), by repeat (first | exact Drawn0.refl _ | apply Drawn0.step)⟩
     ·rw [if_neg c7] at H
      have c7b0 : ((bt t155 x6_1) == a1) = false := beq_eq_false_iff_ne.mpr c7
      have c7b1 : ((bt t155 x6_1) != a1) = true := bne_iff_ne.mpr c7
      have H' := zm H
      clear H
      have p6 : 0 ≤ (x6_1 : Int) := of_decide_eq_true (by first | (with_reducible assumption) | assumption)
      have q6 : x6_1 < (t155.size : Int) := of_decide_eq_true (by first | (with_reducible assumption) | assumption)
      have hx6 := bt_at t155 x6_1
      replace p6 := eq_true p6
      replace q6 := eq_true q6
      go_wp2
      go_roundg k1
      case measure => have := HK1.out; omega
      case rel => exact ⟨(wrap64 (x6_1 + 1)), (by first | rfl | (simp; done) | (simp [*]; done) | (simp [*, wrap64]; done) | (simp [*]; unfold wrap64; omega)), H', ⟨by have := HK1.out; omega⟩, by repeat (first | exact Drawn0.refl _ | apply Drawn0.step)⟩
    ·rw [if_neg c5] at H
     exact absurd H (by simp)
   ·rw [if_neg c4] at H
    have c4b0 : decide (x6_1 < (t155.size : Int)) = false := decide_eq_false c4
    clear c4
    obtain rfl := Option.some.inj H
    go_wp2
    go_ret
    exact ⟨by first | rfl | (simp; done) | (simp [*]; done), by repeat (first | exact Drawn0.refl _ | apply Drawn0.step)⟩

end Go.Proofs.YtojmepkhbebllaaDoor.PShowProgs
