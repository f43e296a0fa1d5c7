-- written by wip/print2.py
import Derived.Test.YtojmepkhbebllaaDoorPShowProgsx0
import Derived.Test.YtojmepkhbebllaaDoorPShowProgsx4
import Derived.Test.YtojmepkhbebllaaDoorPShowProgsx8
import Derived.Test.YtojmepkhbebllaaDoorPShowProgsx10
import Derived.Test.YtojmepkhbebllaaDoorPShowProgsx13
namespace Go.Proofs.YtojmepkhbebllaaDoor.PShowProgs
open Go.RowKit Go.Proofs.YtojmepkhbebllaaDoorW.PrintWords Go.Proofs.YtojmepkhbebllaaDoorW.PrintLast Go.Proofs.YtojmepkhbebllaaDoorW.PrintMore
attribute [local go_sem] max2_int min2_int max_two min_two max_three min_three max_four min_four   -- for this text's walks alone
set_option linter.unusedVariables false
set_option linter.unusedSimpArgs false

/-! ### hallmarkref06_Prog: function 16 -/
mutual
def hallmarkref06_Prog.l0 : Nat → ByteArray → Int → List (S52) → List (S54) → List (S44) → Option (ByteArray)
 | 0, _, _, _, _, _ => none
 | k + 1, x3, x4, x1000, x1001, x1002 => if x4 < (x1000.length : Int) then (if x3.size + 5 ≤ 9223372036854775807 then (if 0 ≤ x4 then ((hallmarkref06_list.f k ((rd_T52 x1000 x4).f0) 0).bind fun t222 => (if (x3 ++ (⟨#[115, 105, 103, 32, 40]⟩ : ByteArray)).size + t222.size ≤ 9223372036854775807 then (if ((x3 ++ (⟨#[115, 105, 103, 32, 40]⟩ : ByteArray)) ++ t222).size + 2 ≤ 9223372036854775807 then ((hallmarkref06_Type.f k ((rd_T52 x1000 x4).f1)).bind fun t224 => (if (((x3 ++ (⟨#[115, 105, 103, 32, 40]⟩ : ByteArray)) ++ t222) ++ (⟨#[41, 32]⟩ : ByteArray)).size + t224.size ≤ 9223372036854775807 then (if ((((x3 ++ (⟨#[115, 105, 103, 32, 40]⟩ : ByteArray)) ++ t222) ++ (⟨#[41, 32]⟩ : ByteArray)) ++ t224).size + 1 ≤ 9223372036854775807 then (hallmarkref06_Prog.l0 k (((((x3 ++ (⟨#[115, 105, 103, 32, 40]⟩ : ByteArray)) ++ t222) ++ (⟨#[41, 32]⟩ : ByteArray)) ++ t224) ++ (⟨#[10]⟩ : ByteArray)) (wrap64 (x4 + 1)) x1000 x1001 x1002) else (none)) else (none))) else (none)) else (none))) else (none)) else (none)) else (hallmarkref06_Prog.l1 k x3 0 x1000 x1001 x1002)
def hallmarkref06_Prog.l1 : Nat → ByteArray → Int → List (S52) → List (S54) → List (S44) → Option (ByteArray)
 | 0, _, _, _, _, _ => none
 | k + 1, x3, x5, x1000, x1001, x1002 => if x5 < (x1001.length : Int) then (if x3.size + 7 ≤ 9223372036854775807 then (if 0 ≤ x5 then ((hallmarkref06_list.f k ((rd_T54 x1001 x5).f0) 0).bind fun t226 => (if (x3 ++ (⟨#[99, 108, 97, 115, 115, 32, 40]⟩ : ByteArray)).size + t226.size ≤ 9223372036854775807 then (if ((x3 ++ (⟨#[99, 108, 97, 115, 115, 32, 40]⟩ : ByteArray)) ++ t226).size + 3 ≤ 9223372036854775807 then ((hallmarkref06_list.f k ((rd_T54 x1001 x5).f1) 2).bind fun t228 => (if (((x3 ++ (⟨#[99, 108, 97, 115, 115, 32, 40]⟩ : ByteArray)) ++ t226) ++ (⟨#[41, 32, 91]⟩ : ByteArray)).size + t228.size ≤ 9223372036854775807 then (if ((((x3 ++ (⟨#[99, 108, 97, 115, 115, 32, 40]⟩ : ByteArray)) ++ t226) ++ (⟨#[41, 32, 91]⟩ : ByteArray)) ++ t228).size + 2 ≤ 9223372036854775807 then (hallmarkref06_Prog.l1 k (((((x3 ++ (⟨#[99, 108, 97, 115, 115, 32, 40]⟩ : ByteArray)) ++ t226) ++ (⟨#[41, 32, 91]⟩ : ByteArray)) ++ t228) ++ (⟨#[93, 10]⟩ : ByteArray)) (wrap64 (x5 + 1)) x1000 x1001 x1002) else (none)) else (none))) else (none)) else (none))) else (none)) else (none)) else (hallmarkref06_Prog.l2 k x3 0 x1000 x1001 x1002)
def hallmarkref06_Prog.l2 : Nat → ByteArray → Int → List (S52) → List (S54) → List (S44) → Option (ByteArray)
 | 0, _, _, _, _, _ => none
 | k + 1, x3, x6, x1000, x1001, x1002 => if x6 < (x1002.length : Int) then (if 0 ≤ x6 then ((hallmarkref06_Func.f k ((rd_T44 x1002 x6).f0) ((rd_T44 x1002 x6).f1)).bind fun t230 => (if x3.size + t230.size ≤ 9223372036854775807 then (hallmarkref06_Prog.l2 k (x3 ++ t230) (wrap64 (x6 + 1)) x1000 x1001 x1002) else (none))) else (none)) else (some x3)
end
def hallmarkref06_Prog.f (k : Nat) (s0_0 : List (S52)) (s0_1 : List (S54)) (s0_2 : List (S44)) : Option (ByteArray) := hallmarkref06_Prog.l0 k (⟨#[]⟩ : ByteArray) 0 s0_0 s0_1 s0_2
theorem hallmarkref06_Prog.mono_l : ∀ k, (∀ y0 y1 y2 y3 y4, LeO (hallmarkref06_Prog.l0 k y0 y1 y2 y3 y4) (hallmarkref06_Prog.l0 (k + 1) y0 y1 y2 y3 y4)) ∧ (∀ y0 y1 y2 y3 y4, LeO (hallmarkref06_Prog.l1 k y0 y1 y2 y3 y4) (hallmarkref06_Prog.l1 (k + 1) y0 y1 y2 y3 y4)) ∧ (∀ y0 y1 y2 y3 y4, LeO (hallmarkref06_Prog.l2 k y0 y1 y2 y3 y4) (hallmarkref06_Prog.l2 (k + 1) y0 y1 y2 y3 y4))
 | 0 => ⟨fun _ _ _ _ _ r h => by simp [hallmarkref06_Prog.l0] at h, fun _ _ _ _ _ r h => by simp [hallmarkref06_Prog.l1] at h, fun _ _ _ _ _ r h => by simp [hallmarkref06_Prog.l2] at h⟩
 | k + 1 => by
  obtain ⟨ih0, ih1, ih2⟩ := hallmarkref06_Prog.mono_l k
  refine ⟨?_, ?_, ?_⟩
  ·intro y0 y1 y2 y3 y4
   unfold hallmarkref06_Prog.l0
   repeat' first
   | (with_reducible exact ih0 _ _ _ _ _)
   | (with_reducible exact ih1 _ _ _ _ _)
   | (with_reducible exact ih2 _ _ _ _ _)
   | (with_reducible exact hallmarkref06_Func.mono _ _ _)
   | (with_reducible exact hallmarkref06_Type.mono _ _)
   | (with_reducible exact hallmarkref06_list.mono _ _ _)
   | (with_reducible exact LeO.refl _)
   | (with_reducible exact LeO.none _)
   | (with_reducible refine LeO.ite ?_ ?_)
   | (with_reducible refine LeO.bind ?_ (fun _ => ?_))
   | exact ih0 _ _ _ _ _
   | exact ih1 _ _ _ _ _
   | exact ih2 _ _ _ _ _
   | exact hallmarkref06_Func.mono _ _ _
   | exact hallmarkref06_Type.mono _ _
   | exact hallmarkref06_list.mono _ _ _
   | exact LeO.none _
   | refine LeO.ite ?_ ?_
   | refine LeO.bind ?_ (fun _ => ?_)
  ·intro y0 y1 y2 y3 y4
   unfold hallmarkref06_Prog.l1
   repeat' first
   | (with_reducible exact ih0 _ _ _ _ _)
   | (with_reducible exact ih1 _ _ _ _ _)
   | (with_reducible exact ih2 _ _ _ _ _)
   | (with_reducible exact hallmarkref06_Func.mono _ _ _)
   | (with_reducible exact hallmarkref06_Type.mono _ _)
   | (with_reducible exact hallmarkref06_list.mono _ _ _)
   | (with_reducible exact LeO.refl _)
   | (with_reducible exact LeO.none _)
   | (with_reducible refine LeO.ite ?_ ?_)
   | (with_reducible refine LeO.bind ?_ (fun _ => ?_))
   | exact ih0 _ _ _ _ _
   | exact ih1 _ _ _ _ _
   | exact ih2 _ _ _ _ _
   | exact hallmarkref06_Func.mono _ _ _
   | exact hallmarkref06_Type.mono _ _
   | exact hallmarkref06_list.mono _ _ _
   | exact LeO.none _
   | refine LeO.ite ?_ ?_
   | refine LeO.bind ?_ (fun _ => ?_)
  ·intro y0 y1 y2 y3 y4
   unfold hallmarkref06_Prog.l2
   repeat' first
   | (with_reducible exact ih0 _ _ _ _ _)
   | (with_reducible exact ih1 _ _ _ _ _)
   | (with_reducible exact ih2 _ _ _ _ _)
   | (with_reducible exact hallmarkref06_Func.mono _ _ _)
   | (with_reducible exact hallmarkref06_Type.mono _ _)
   | (with_reducible exact hallmarkref06_list.mono _ _ _)
   | (with_reducible exact LeO.refl _)
   | (with_reducible exact LeO.none _)
   | (with_reducible refine LeO.ite ?_ ?_)
   | (with_reducible refine LeO.bind ?_ (fun _ => ?_))
   | exact ih0 _ _ _ _ _
   | exact ih1 _ _ _ _ _
   | exact ih2 _ _ _ _ _
   | exact hallmarkref06_Func.mono _ _ _
   | exact hallmarkref06_Type.mono _ _
   | exact hallmarkref06_list.mono _ _ _
   | exact LeO.none _
   | refine LeO.ite ?_ ?_
   | refine LeO.bind ?_ (fun _ => ?_)
theorem hallmarkref06_Prog.mono : ∀ a0 a1 a2 k, LeO (hallmarkref06_Prog.f k a0 a1 a2) (hallmarkref06_Prog.f (k + 1) a0 a1 a2) := by
 intro a0 a1 a2 k
 obtain ⟨ih0, ih1, ih2⟩ := hallmarkref06_Prog.mono_l k
 unfold hallmarkref06_Prog.f
 repeat' first
   | (with_reducible exact ih0 _ _ _ _ _)
   | (with_reducible exact ih1 _ _ _ _ _)
   | (with_reducible exact ih2 _ _ _ _ _)
   | (with_reducible exact hallmarkref06_Func.mono _ _ _)
   | (with_reducible exact hallmarkref06_Type.mono _ _)
   | (with_reducible exact hallmarkref06_list.mono _ _ _)
   | (with_reducible exact LeO.refl _)
   | (with_reducible exact LeO.none _)
   | (with_reducible refine LeO.ite ?_ ?_)
   | (with_reducible refine LeO.bind ?_ (fun _ => ?_))
   | exact ih0 _ _ _ _ _
   | exact ih1 _ _ _ _ _
   | exact ih2 _ _ _ _ _
   | exact hallmarkref06_Func.mono _ _ _
   | exact hallmarkref06_Type.mono _ _
   | exact hallmarkref06_list.mono _ _ _
   | exact LeO.none _
   | refine LeO.ite ?_ ?_
   | refine LeO.bind ?_ (fun _ => ?_)
def hallmarkref06_Prog.T7 : Bool × List (List Nat × List Nat) := (true, [([], []), ([0], [0]), ([], []), ([2], [2]), ([3], [3]), ([4], [4]), ([], []), ([5, 6], [5, 6]), ([7], [7]), ([8], [8]), ([9], [9]), ([1, 10], [1, 10]), ([11], [11]), ([], []), ([13], [13]), ([14], [14]), ([15], [15]), ([], []), ([16, 17], [16, 17]), ([18], [18]), ([19], [19]), ([20, 10], [20]), ([12, 21], [12, 21]), ([22], [22]), ([23, 21, 0, 1, 2, 3, 4, 5, 6, 7, 8, 9, 10, 11, 12, 13, 14, 15, 16, 17, 18, 19, 20, 21, 22, 23], [0, 23])])
def hallmarkref06_Prog.B7 : List Nat := [0, 1, 0, 4, 12, 28, 0, 124, 252, 508, 1020, 2047, 4095, 0, 8192, 24576, 57344, 0, 253952, 516096, 1040384, 2091004, 4194303, 8388607, 16777215]
theorem hallmarkref06_Prog.tab7 : rtab .any (opsOf Tryd.f16 7) = hallmarkref06_Prog.T7 := by kernel_rfl
theorem hallmarkref06_Prog.bits7 : waitsOk hallmarkref06_Prog.T7.2 hallmarkref06_Prog.B7 = true := by kernel_rfl
def hallmarkref06_Prog.T11 : Bool × List (List Nat × List Nat) := (true, [([], []), ([0], [0]), ([], []), ([2], [2]), ([3], [3]), ([4], [4]), ([], []), ([5, 6], [5, 6]), ([7], [7]), ([8], [8]), ([9], [9]), ([1, 10], [1, 10]), ([11], [11]), ([], []), ([13], [13]), ([14], [14]), ([15], [15]), ([], []), ([16, 17], [16, 17]), ([18], [18]), ([19], [19]), ([20, 10], [20]), ([12, 21], [12, 21]), ([22], [22]), ([23, 21, 0, 1, 2, 3, 4, 5, 6, 7, 8, 9, 10, 11, 12, 13, 14, 15, 16, 17, 18, 19, 20, 21, 22, 23], [0, 23])])
def hallmarkref06_Prog.B11 : List Nat := [0, 1, 0, 4, 12, 28, 0, 124, 252, 508, 1020, 2047, 4095, 0, 8192, 24576, 57344, 0, 253952, 516096, 1040384, 2091004, 4194303, 8388607, 16777215]
theorem hallmarkref06_Prog.tab11 : rtab .any (opsOf Tryd.f16 11) = hallmarkref06_Prog.T11 := by kernel_rfl
theorem hallmarkref06_Prog.bits11 : waitsOk hallmarkref06_Prog.T11.2 hallmarkref06_Prog.B11 = true := by kernel_rfl
set_option maxHeartbeats 8000000 in
set_option maxRecDepth 100000 in
theorem hallmarkref06_Prog.calls (k : Nat) (g : Nat) (s0_0 : List (S52)) (s0_1 : List (S54)) (s0_2 : List (S44)) (r : ByteArray) (w0 w : World) (hI : IsS34 w0 w g s0_0 s0_1 s0_2) (hB : Below w0.heap.size w0 w) (h : hallmarkref06_Prog.f k s0_0 s0_1 s0_2 = some r) :
  Calls Tryd.prog 16 #[.pointer (some ⟨g, 0, none⟩)] w fun e w' => e = .returned (.string r) ∧ IsS34 w0 w' g s0_0 s0_1 s0_2 ∧ Below w0.heap.size w0 w' ∧ KeepBut w w' g none := by
 have hu44 := Tryd.underlying44
 have HI0 := zm hI
 have HK := zm (KeepBut.refl w g none)
 have HL := zm hB.size
 clear hI
 have HW0 := zm hB.size
 have HB := zm hB
 clear hB
 have H : (hallmarkref06_Prog.l0 k (⟨#[]⟩ : ByteArray) 0 s0_0 s0_1 s0_2) = some r := h
 clear h
 have H' := zm H
 clear H
 go_enter Tryd.func16, Tryd.ntmps16
 go_wp2
 go_loopg [3, 4] k (fun kq v3 v4 w' => ∃ (x3_1 : ByteArray) (x4_1 : Int), v3 = .string x3_1 ∧ v4 = .int .i64 x4_1 ∧ Aside0 (hallmarkref06_Prog.l0 kq x3_1 x4_1 s0_0 s0_1 s0_2 = some r) ∧ Aside0 (kq ≤ k) ∧ Aside0 (IsS34 w0 w' g s0_0 s0_1 s0_2) ∧ Aside0 (KeepBut w w' g none) ∧ Aside0 (Below w0.heap.size w0 w'))
 case atStart => exact ⟨((⟨#[]⟩ : ByteArray)), (0), (by first | rfl | (simp; done) | (simp [*]; done) | (simp [*, wrap64]; done) | (simp [*]; unfold wrap64; omega)), (by first | rfl | (simp; done) | (simp [*]; done) | (simp [*, wrap64]; done) | (simp [*]; unfold wrap64; omega)), H', ⟨Nat.le_refl _⟩, ⟨by repeat (first | (with_reducible first | exact HI0.out | apply IsS34.alloc | apply IsS34.drewN | apply IsS34.drew) | exact HI0.out)⟩, ⟨by repeat (first | (with_reducible first | exact HK.out | apply KeepBut.set_ | apply keep_drewN | apply keep_drew | apply keep_alloc) | exact HK.out)⟩, ⟨by repeat (first | (with_reducible first | exact HB.out | apply below_alloc | apply pw_below_drewN | apply below_drew1 | refine below_set ?_ (IsS34.ge HI0.out)) | exact HB.out)⟩⟩
 case round =>
  clear H'
  try clear c1
  obtain ⟨x3_1, x4_1, rfl, rfl, HA, HK1, HI0, HK, HB⟩ := hrel
  cases gk with
  | zero => exact absurd HA.out (by simp [hallmarkref06_Prog.l0])
  | succ k1 =>
   have H := HA.out
   clear HA
   simp only [hallmarkref06_Prog.l0] at H
   by_cases c2 : x4_1 < (s0_0.length : Int)
   ·rw [if_pos c2] at H
    have c2b0 : decide (x4_1 < (s0_0.length : Int)) = true := decide_eq_true c2
    clear c2
    by_cases c3 : x3_1.size + 5 ≤ 9223372036854775807
    ·rw [if_pos c3] at H
     have c3b0 := eq_true c3
     have c3b1 : decide (x3_1.size + 5 ≤ 9223372036854775807) = true := decide_eq_true c3
     try have c3b2 : (9223372036854775807 < x3_1.size + 5) = False := eq_false (Nat.not_lt.2 c3)
     by_cases c4 : 0 ≤ x4_1
     ·rw [if_pos c4] at H
      have c4b0 : decide (0 ≤ x4_1) = true := decide_eq_true c4
      clear c4
      replace H := Option.bind_eq_some_iff.mp H
      obtain ⟨t222, A50, H⟩ := H
      replace H : (if (x3_1 ++ (⟨#[115, 105, 103, 32, 40]⟩ : ByteArray)).size + t222.size ≤ 9223372036854775807 then (if ((x3_1 ++ (⟨#[115, 105, 103, 32, 40]⟩ : ByteArray)) ++ t222).size + 2 ≤ 9223372036854775807 then ((hallmarkref06_Type.f k1 ((rd_T52 s0_0 x4_1).f1)).bind fun t224 => (if (((x3_1 ++ (⟨#[115, 105, 103, 32, 40]⟩ : ByteArray)) ++ t222) ++ (⟨#[41, 32]⟩ : ByteArray)).size + t224.size ≤ 9223372036854775807 then (if ((((x3_1 ++ (⟨#[115, 105, 103, 32, 40]⟩ : ByteArray)) ++ t222) ++ (⟨#[41, 32]⟩ : ByteArray)) ++ t224).size + 1 ≤ 9223372036854775807 then (hallmarkref06_Prog.l0 k1 (((((x3_1 ++ (⟨#[115, 105, 103, 32, 40]⟩ : ByteArray)) ++ t222) ++ (⟨#[41, 32]⟩ : ByteArray)) ++ t224) ++ (⟨#[10]⟩ : ByteArray)) (wrap64 (x4_1 + 1)) s0_0 s0_1 s0_2) else (none)) else (none))) else (none)) else (none)) = some r := H
      have A5 := zm A50
      clear A50
      by_cases c6 : (x3_1 ++ (⟨#[115, 105, 103, 32, 40]⟩ : ByteArray)).size + t222.size ≤ 9223372036854775807
      ·rw [if_pos c6] at H
       have c6b0 := eq_true c6
       have c6b1 : decide ((x3_1 ++ (⟨#[115, 105, 103, 32, 40]⟩ : ByteArray)).size + t222.size ≤ 9223372036854775807) = true := decide_eq_true c6
       have c6n := c6
       simp only [ByteArray.size_append, show (⟨#[115, 105, 103, 32, 40]⟩ : ByteArray).size = 5 from rfl] at c6n
       have c6n0 := eq_true c6n
       have c6n1 := decide_eq_true c6n
       have c6n2 := eq_false (Nat.not_lt.2 c6n)
       clear c6n
       try have c6b2 : (9223372036854775807 < (x3_1 ++ (⟨#[115, 105, 103, 32, 40]⟩ : ByteArray)).size + t222.size) = False := eq_false (Nat.not_lt.2 c6)
       by_cases c7 : ((x3_1 ++ (⟨#[115, 105, 103, 32, 40]⟩ : ByteArray)) ++ t222).size + 2 ≤ 9223372036854775807
       ·rw [if_pos c7] at H
        have c7b0 := eq_true c7
        have c7b1 : decide (((x3_1 ++ (⟨#[115, 105, 103, 32, 40]⟩ : ByteArray)) ++ t222).size + 2 ≤ 9223372036854775807) = true := decide_eq_true c7
        have c7n := c7
        simp only [ByteArray.size_append, show (⟨#[115, 105, 103, 32, 40]⟩ : ByteArray).size = 5 from rfl] at c7n
        have c7n0 := eq_true c7n
        have c7n1 := decide_eq_true c7n
        have c7n2 := eq_false (Nat.not_lt.2 c7n)
        clear c7n
        try have c7b2 : (9223372036854775807 < ((x3_1 ++ (⟨#[115, 105, 103, 32, 40]⟩ : ByteArray)) ++ t222).size + 2) = False := eq_false (Nat.not_lt.2 c7)
        replace H := Option.bind_eq_some_iff.mp H
        obtain ⟨t224, A80, H⟩ := H
        replace H : (if (((x3_1 ++ (⟨#[115, 105, 103, 32, 40]⟩ : ByteArray)) ++ t222) ++ (⟨#[41, 32]⟩ : ByteArray)).size + t224.size ≤ 9223372036854775807 then (if ((((x3_1 ++ (⟨#[115, 105, 103, 32, 40]⟩ : ByteArray)) ++ t222) ++ (⟨#[41, 32]⟩ : ByteArray)) ++ t224).size + 1 ≤ 9223372036854775807 then (hallmarkref06_Prog.l0 k1 (((((x3_1 ++ (⟨#[115, 105, 103, 32, 40]⟩ : ByteArray)) ++ t222) ++ (⟨#[41, 32]⟩ : ByteArray)) ++ t224) ++ (⟨#[10]⟩ : ByteArray)) (wrap64 (x4_1 + 1)) s0_0 s0_1 s0_2) else (none)) else (none)) = some r := H
        have A8 := zm A80
        clear A80
        by_cases c9 : (((x3_1 ++ (⟨#[115, 105, 103, 32, 40]⟩ : ByteArray)) ++ t222) ++ (⟨#[41, 32]⟩ : ByteArray)).size + t224.size ≤ 9223372036854775807
        ·rw [if_pos c9] at H
         have c9b0 := eq_true c9
         have c9b1 : decide ((((x3_1 ++ (⟨#[115, 105, 103, 32, 40]⟩ : ByteArray)) ++ t222) ++ (⟨#[41, 32]⟩ : ByteArray)).size + t224.size ≤ 9223372036854775807) = true := decide_eq_true c9
         have c9n := c9
         simp only [ByteArray.size_append, show (⟨#[115, 105, 103, 32, 40]⟩ : ByteArray).size = 5 from rfl, show (⟨#[41, 32]⟩ : ByteArray).size = 2 from rfl] at c9n
         have c9n0 := eq_true c9n
         have c9n1 := decide_eq_true c9n
         have c9n2 := eq_false (Nat.not_lt.2 c9n)
         clear c9n
         try have c9b2 : (9223372036854775807 < (((x3_1 ++ (⟨#[115, 105, 103, 32, 40]⟩ : ByteArray)) ++ t222) ++ (⟨#[41, 32]⟩ : ByteArray)).size + t224.size) = False := eq_false (Nat.not_lt.2 c9)
         by_cases c10 : ((((x3_1 ++ (⟨#[115, 105, 103, 32, 40]⟩ : ByteArray)) ++ t222) ++ (⟨#[41, 32]⟩ : ByteArray)) ++ t224).size + 1 ≤ 9223372036854775807
         ·rw [if_pos c10] at H
          have c10b0 := eq_true c10
          have c10b1 : decide (((((x3_1 ++ (⟨#[115, 105, 103, 32, 40]⟩ : ByteArray)) ++ t222) ++ (⟨#[41, 32]⟩ : ByteArray)) ++ t224).size + 1 ≤ 9223372036854775807) = true := decide_eq_true c10
          have c10n := c10
          simp only [ByteArray.size_append, show (⟨#[115, 105, 103, 32, 40]⟩ : ByteArray).size = 5 from rfl, show (⟨#[41, 32]⟩ : ByteArray).size = 2 from rfl] at c10n
          have c10n0 := eq_true c10n
          have c10n1 := decide_eq_true c10n
          have c10n2 := eq_false (Nat.not_lt.2 c10n)
          clear c10n
          try have c10b2 : (9223372036854775807 < ((((x3_1 ++ (⟨#[115, 105, 103, 32, 40]⟩ : ByteArray)) ++ t222) ++ (⟨#[41, 32]⟩ : ByteArray)) ++ t224).size + 1) = False := eq_false (Nat.not_lt.2 c10)
          have H' := zm H
          clear H
          obtain ⟨ASz11_0, cSz11_0, ASz11_1, cSz11_1, ASz11_2, cSz11_2, HGz11, hgz11, HSz11_0, HSz11_1, HSz11_2⟩ := HI0.out
          have hcz11_0 := cellS34_0 HGz11
          have hcz11_1 := cellS34_1 HGz11
          have hcz11_2 := cellS34_2 HGz11
          clear HGz11 hgz11
          try go_wp2
          replace HI0 := zm (IsS34.drew HI0.out)
          replace HK := zm (keep_drew HK.out)
          replace HB := zm (below_drew1 HB.out)
          obtain ⟨AS13_0, cS13_0, AS13_1, cS13_1, AS13_2, cS13_2, HG13, hg13, HS13_0, HS13_1, HS13_2⟩ := HI0.out
          have hx13_0 := cellS34_0 HG13
          have hx13_1 := cellS34_1 HG13
          have hx13_2 := cellS34_2 HG13
          clear HG13 hg13
          have p221 : 0 ≤ (x4_1 : Int) := of_decide_eq_true (by first | (with_reducible assumption) | assumption)
          have q221 : x4_1 < (s0_0.length : Int) := of_decide_eq_true (by first | (with_reducible assumption) | assumption)
          obtain ⟨ad221, A221_0, c221_0, e221, hx221_0, hx221_1, hl221_0, hi221_0⟩ := at_T52 HS13_0 x4_1 p221 q221
          have hw221_1 := hx221_1
          have hw221_0 := hx221_0
          cases e221
          replace hx221_0 := pw_cell_below HB.out hx221_0
          replace hx221_1 := pw_cell_below HB.out hx221_1
          have HZ221_0 := zm hi221_0
          have HC221_0 := zm hl221_0
          clear hi221_0 hl221_0
          have HR221_0 := zm (Kd.C_below HZ221_0.out HB.out)
          replace p221 := eq_true p221
          replace q221 := eq_true q221
          have p223 : 0 ≤ (x4_1 : Int) := of_decide_eq_true (by first | (with_reducible assumption) | assumption)
          have q223 : x4_1 < (s0_0.length : Int) := of_decide_eq_true (by first | (with_reducible assumption) | assumption)
          obtain ⟨ad223, A223_0, c223_0, e223, hx223_0, hx223_1, hl223_0, hi223_0⟩ := at_T52 HS13_0 x4_1 p223 q223
          have hw223_1 := hx223_1
          have hw223_0 := hx223_0
          obtain rfl : ad221 = ad223 := (by injection e223)
          replace hx223_0 := pw_cell_below HB.out hx223_0
          replace hx223_1 := pw_cell_below HB.out hx223_1
          have HZ223_0 := zm hi223_0
          have HC223_0 := zm hl223_0
          clear hi223_0 hl223_0
          have HR223_0 := zm (Kd.C_below HZ223_0.out HB.out)
          replace p223 := eq_true p223
          replace q223 := eq_true q223
          have ea_ := Option.some.inj (hx221_0.symm.trans hx223_0)
          injection ea_ with ea_ en_ ec_
          subst ea_
          subst ec_
          clear en_
          refine start_ (n := 25) (S := fun w' => w'.cell? ⟨g, 0, none⟩ = some (.slice (some ad221) s0_0.length cS13_0) ∧ w'.cell? ⟨g, 1, none⟩ = some (.slice AS13_1 s0_1.length cS13_1) ∧ w'.cell? ⟨g, 2, none⟩ = some (.slice AS13_2 s0_2.length cS13_2) ∧ w'.cell? (ad221.add ((x4_1).toNat * 2)) = some (.slice A221_0 ((rd_T52 s0_0 x4_1).f0).length c221_0) ∧ w'.cell? ⟨(ad221.add ((x4_1).toNat * 2)).block, (ad221.add ((x4_1).toNat * 2)).off + 1, none⟩ = some (.int .i64 ((rd_T52 s0_0 x4_1).f1)) ∧ w'.cell? (ad221.add ((x4_1).toNat * 2)) = some (.slice A221_0 ((rd_T52 s0_0 x4_1).f0).length c221_0) ∧ w'.cell? ⟨(ad221.add ((x4_1).toNat * 2)).block, (ad221.add ((x4_1).toNat * 2)).off + 1, none⟩ = some (.int .i64 ((rd_T52 s0_0 x4_1).f1))) (ds := []) #[Z,Z,Z,Z,Z,Z,Z,Z,Z,Z,Z,Z,Z,Z,Z,Z,Z,Z,Z,Z,Z,Z,Z,Z,Z] (by kernel_rfl) rfl rfl ⟨hx13_0, hx13_1, hx13_2, (pw_cell_below HB.out hw221_0), (pw_cell_below HB.out hw221_1), (pw_cell_below HB.out hw223_0), (pw_cell_below HB.out hw223_1)⟩ (fun hHeld => ?_); refine with_tabW hallmarkref06_Prog.tab7 hallmarkref06_Prog.bits7 (fun HT_ HW_ => ?_)
          generalize wr.drew = w12 at HI0 HK HB HR221_0 HR223_0 hx13_0 hx13_1 hx13_2 hx221_0 hx221_1 hx223_0 hx223_1 hHeld ⊢
          refine pure_ (i := 0) (N := some 18) (v := ?_) (a' := ?_) #[Y,Z,Z,Z,Z,Z,Z,Z,Z,Z,Z,Z,Z,Z,Z,Z,Z,Z,Z,Z,Z,Z,Z,Z,Z] rfl rfl (any_of HT_.out (by kernel_rfl)) (fun _ _ _ h => h) (Or.inl ⟨by rfl, ?_⟩) ?_ ?_
          rotate_left
          ·intro w'
           go_simp
           with_reducible rfl
          rotate_left
          ·simp only [Act.put, zl1, zl2, zl3, i64_w, i32_w]
           rfl
          refine pure_ (i := 1) (N := some 19) (v := ?_) (a' := ?_) #[Y,Y,Z,Z,Z,Z,Z,Z,Z,Z,Z,Z,Z,Z,Z,Z,Z,Z,Z,Z,Z,Z,Z,Z,Z] rfl rfl (any_of HT_.out (by kernel_rfl)) (fun _ _ _ h => h) (Or.inl ⟨by rfl, ?_⟩) ?_ ?_
          rotate_left
          ·intro w'
           go_simp
           with_reducible rfl
          rotate_left
          ·simp only [Act.put, zl1, zl2, zl3, i64_w, i32_w]
           rfl
          refine pure_ (i := 2) (N := some 20) (v := ?_) (a' := ?_) #[Y,Y,Y,Z,Z,Z,Z,Z,Z,Z,Z,Z,Z,Z,Z,Z,Z,Z,Z,Z,Z,Z,Z,Z,Z] rfl rfl (any_of HT_.out (by kernel_rfl)) (fun _ _ _ h => h) (Or.inl ⟨by rfl, ?_⟩) ?_ ?_
          rotate_left
          ·intro w'
           go_simp
           with_reducible rfl
          rotate_left
          ·simp only [Act.put, zl1, zl2, zl3, i64_w, i32_w]
           rfl
          refine pure_ (i := 3) (N := some 21) (v := ?_) (a' := ?_) #[Y,Y,Y,Y,Z,Z,Z,Z,Z,Z,Z,Z,Z,Z,Z,Z,Z,Z,Z,Z,Z,Z,Z,Z,Z] rfl rfl (any_of HT_.out (by kernel_rfl)) (fun _ _ _ h => h) (Or.inl ⟨by rfl, ?_⟩) ?_ ?_
          rotate_left
          ·intro w'
           go_simp
           with_reducible rfl
          rotate_left
          ·simp only [Act.put, zl1, zl2, zl3, i64_w, i32_w]
           rfl
          refine pure_ (i := 4) (N := some 22) (v := ?_) (a' := ?_) #[Y,Y,Y,Y,Y,Z,Z,Z,Z,Z,Z,Z,Z,Z,Z,Z,Z,Z,Z,Z,Z,Z,Z,Z,Z] rfl rfl (any_of HT_.out (by kernel_rfl)) (fun _ _ _ h => h) (Or.inl ⟨by rfl, ?_⟩) ?_ ?_
          rotate_left
          ·intro w'
           go_simp
           with_reducible rfl
          rotate_left
          ·simp only [Act.put, zl1, zl2, zl3, i64_w, i32_w]
           rfl
          refine pure_ (i := 6) (N := some 24) (v := ?_) (a' := ?_) #[Y,Y,Y,Y,Y,Z,Y,Z,Z,Z,Z,Z,Z,Z,Z,Z,Z,Z,Z,Z,Z,Z,Z,Z,Z] rfl rfl (any_of HT_.out (by kernel_rfl)) (fun _ _ _ h => h) (Or.inl ⟨by rfl, ?_⟩) ?_ ?_
          rotate_left
          ·intro w'
           go_simp
           with_reducible rfl
          rotate_left
          ·simp only [Act.put, zl1, zl2, zl3, i64_w, i32_w]
           rfl
          refine pure_ (i := 13) (N := some 31) (v := ?_) (a' := ?_) #[Y,Y,Y,Y,Y,Z,Y,Z,Z,Z,Z,Z,Z,Y,Z,Z,Z,Z,Z,Z,Z,Z,Z,Z,Z] rfl rfl (any_of HT_.out (by kernel_rfl)) (fun _ _ _ h => h) (Or.inl ⟨by rfl, ?_⟩) ?_ ?_
          rotate_left
          ·intro w'
           go_simp
           with_reducible rfl
          rotate_left
          ·simp only [Act.put, zl1, zl2, zl3, i64_w, i32_w]
           rfl
          refine pure_ (i := 14) (N := some 32) (v := ?_) (a' := ?_) #[Y,Y,Y,Y,Y,Z,Y,Z,Z,Z,Z,Z,Z,Y,Y,Z,Z,Z,Z,Z,Z,Z,Z,Z,Z] rfl rfl (any_of HT_.out (by kernel_rfl)) (fun _ _ _ h => h) (Or.inl ⟨by rfl, ?_⟩) ?_ ?_
          rotate_left
          ·intro w'
           go_simp
           with_reducible rfl
          rotate_left
          ·simp only [Act.put, zl1, zl2, zl3, i64_w, i32_w]
           rfl
          refine pure_ (i := 15) (N := some 33) (v := ?_) (a' := ?_) #[Y,Y,Y,Y,Y,Z,Y,Z,Z,Z,Z,Z,Z,Y,Y,Y,Z,Z,Z,Z,Z,Z,Z,Z,Z] rfl rfl (any_of HT_.out (by kernel_rfl)) (fun _ _ _ h => h) (Or.inl ⟨by rfl, ?_⟩) ?_ ?_
          rotate_left
          ·intro w'
           go_simp
           with_reducible rfl
          rotate_left
          ·simp only [Act.put, zl1, zl2, zl3, i64_w, i32_w]
           rfl
          refine pure_ (i := 17) (N := some 35) (v := ?_) (a' := ?_) #[Y,Y,Y,Y,Y,Z,Y,Z,Z,Z,Z,Z,Z,Y,Y,Y,Z,Y,Z,Z,Z,Z,Z,Z,Z] rfl rfl (any_of HT_.out (by kernel_rfl)) (fun _ _ _ h => h) (Or.inl ⟨by rfl, ?_⟩) ?_ ?_
          rotate_left
          ·intro w'
           go_simp
           with_reducible rfl
          rotate_left
          ·simp only [Act.put, zl1, zl2, zl3, i64_w, i32_w]
           rfl
          refine take_ (i := 5) (N := some 23) (v := ?_) (a' := ?_) #[Y,Y,Y,Y,Y,Y,Y,Z,Z,Z,Z,Z,Z,Y,Y,Y,Z,Y,Z,Z,Z,Z,Z,Z,Z] rfl rfl (take_ofW HT_.out HW_.out (by kernel_rfl)) (fun _ _ _ h => h) (Or.inl ⟨by rfl, ?_⟩) hHeld ?_ ?_
          rotate_left
          ·rintro w' ⟨s0, s1, s2, s3, s4, s5, s6⟩
           go_simp
           with_reducible rfl
          rotate_left
          ·simp only [Act.put, zl1, zl2, zl3, i64_w, i32_w]
           rfl
          refine pure_ (i := 7) (N := some 25) (v := ?_) (a' := ?_) #[Y,Y,Y,Y,Y,Y,Y,Y,Z,Z,Z,Z,Z,Y,Y,Y,Z,Y,Z,Z,Z,Z,Z,Z,Z] rfl rfl (any_of HT_.out (by kernel_rfl)) (fun _ _ _ h => h) (Or.inl ⟨by rfl, ?_⟩) ?_ ?_
          rotate_left
          ·intro w'
           go_simp
           with_reducible rfl
          rotate_left
          ·simp only [Act.put, zl1, zl2, zl3, i64_w, i32_w]
           rfl
          refine pure_ (i := 8) (N := some 26) (v := ?_) (a' := ?_) #[Y,Y,Y,Y,Y,Y,Y,Y,Y,Z,Z,Z,Z,Y,Y,Y,Z,Y,Z,Z,Z,Z,Z,Z,Z] rfl rfl (any_of HT_.out (by kernel_rfl)) (fun _ _ _ h => h) (Or.inl ⟨by rfl, ?_⟩) ?_ ?_
          rotate_left
          ·intro w'
           go_simp
           with_reducible rfl
          rotate_left
          ·simp only [Act.put, zl1, zl2, zl3, i64_w, i32_w]
           rfl
          refine take_ (i := 9) (N := some 27) (v := ?_) (a' := ?_) #[Y,Y,Y,Y,Y,Y,Y,Y,Y,Y,Z,Z,Z,Y,Y,Y,Z,Y,Z,Z,Z,Z,Z,Z,Z] rfl rfl (take_ofW HT_.out HW_.out (by kernel_rfl)) (fun _ _ _ h => h) (Or.inl ⟨by rfl, ?_⟩) hHeld ?_ ?_
          rotate_left
          ·rintro w' ⟨s0, s1, s2, s3, s4, s5, s6⟩
           go_simp
           with_reducible rfl
          rotate_left
          ·simp only [Act.put, zl1, zl2, zl3, i64_w, i32_w]
           rfl
          refine take_ (i := 16) (N := some 34) (v := ?_) (a' := ?_) #[Y,Y,Y,Y,Y,Y,Y,Y,Y,Y,Z,Z,Z,Y,Y,Y,Y,Y,Z,Z,Z,Z,Z,Z,Z] rfl rfl (take_ofW HT_.out HW_.out (by kernel_rfl)) (fun _ _ _ h => h) (Or.inl ⟨by rfl, ?_⟩) hHeld ?_ ?_
          rotate_left
          ·rintro w' ⟨s0, s1, s2, s3, s4, s5, s6⟩
           go_simp
           with_reducible rfl
          rotate_left
          ·simp only [Act.put, zl1, zl2, zl3, i64_w, i32_w]
           rfl
          refine pure_ (i := 18) (N := some 36) (v := ?_) (a' := ?_) #[Y,Y,Y,Y,Y,Y,Y,Y,Y,Y,Z,Z,Z,Y,Y,Y,Y,Y,Y,Z,Z,Z,Z,Z,Z] rfl rfl (any_of HT_.out (by kernel_rfl)) (fun _ _ _ h => h) (Or.inl ⟨by rfl, ?_⟩) ?_ ?_
          rotate_left
          ·intro w'
           go_simp
           with_reducible rfl
          rotate_left
          ·simp only [Act.put, zl1, zl2, zl3, i64_w, i32_w]
           rfl
          refine pure_ (i := 19) (N := some 37) (v := ?_) (a' := ?_) #[Y,Y,Y,Y,Y,Y,Y,Y,Y,Y,Z,Z,Z,Y,Y,Y,Y,Y,Y,Y,Z,Z,Z,Z,Z] rfl rfl (any_of HT_.out (by kernel_rfl)) (fun _ _ _ h => h) (Or.inl ⟨by rfl, ?_⟩) ?_ ?_
          rotate_left
          ·intro w'
           go_simp
           with_reducible rfl
          rotate_left
          ·simp only [Act.put, zl1, zl2, zl3, i64_w, i32_w]
           rfl
          refine take_ (i := 20) (N := some 38) (v := ?_) (a' := ?_) #[Y,Y,Y,Y,Y,Y,Y,Y,Y,Y,Z,Z,Z,Y,Y,Y,Y,Y,Y,Y,Y,Z,Z,Z,Z] rfl rfl (take_ofW HT_.out HW_.out (by kernel_rfl)) (fun _ _ _ h => h) (Or.inl ⟨by rfl, ?_⟩) hHeld ?_ ?_
          rotate_left
          ·rintro w' ⟨s0, s1, s2, s3, s4, s5, s6⟩
           go_simp
           with_reducible rfl
          rotate_left
          ·simp only [Act.put, zl1, zl2, zl3, i64_w, i32_w]
           rfl
          refine one_ (i := 10) (N := some 28) #[Y,Y,Y,Y,Y,Y,Y,Y,Y,Y,Y,Z,Z,Y,Y,Y,Y,Y,Y,Y,Y,Z,Z,Z,Z] rfl rfl (one_of HT_.out (by kernel_rfl)) (by decide) (fun K hK => ?_)
          refine goes_ Tryd.func25 (by kernel_rfl) rfl #[.slice A221_0 ((rd_T52 s0_0 x4_1).f0).length c221_0, .int .i64 0] (by rfl) rfl rfl (by (try simp only [List.map_toArray, List.map_cons, List.map_nil]); first | done | rfl | (simp only [List.length_drop, List.length_take]; rfl)) ?_
          with_reducible refine (hallmarkref06_list.calls k1 _ _ ((rd_T52 s0_0 x4_1).f0) 0 t222 _ ?side1 ?side2 A5.out).mono ?_
          (case side1 => repeat (first | exact HR221_0.out | (with_reducible refine Kd.C_alloc ?_ _) | (with_reducible refine Kd.C_drewN ?_ _) | (with_reducible refine Kd.C_drew ?_)))
          (case side2 => exact HC221_0.out)
          rintro e w14 ⟨rfl, hb⟩
          have HS0_ := zh hb (hHeld.1)
          have HS1_ := zh hb (hHeld.2.1)
          have HS2_ := zh hb (hHeld.2.2.1)
          refine ⟨_, rfl, ?_⟩
          replace HK := zm (KeepBut.trans (by repeat (first | (with_reducible first | exact HK.out | apply KeepBut.set_ | apply keep_drewN | apply keep_drew | apply keep_alloc) | exact HK.out)) (KeepBut.of_below hb g none) (.inl rfl))
          replace HB := zm (below_step (by repeat (first | (with_reducible first | exact HB.out | apply below_alloc | apply pw_below_drewN | apply below_drew1 | refine below_set ?_ (IsS34.ge HI0.out)) | exact HB.out)) hb)
          replace HI0 := zm (IsS34.below (by repeat (first | (with_reducible first | exact HI0.out | apply IsS34.alloc | apply IsS34.drewN | apply IsS34.drew) | exact HI0.out)) hb)
          (try clear hb)
          (try clear hb2)
          (try clear hk)
          (try clear hi)
          refine hK.out _ _ ⟨HS0_, HS1_, HS2_, (pw_cell_below HB.out hw221_0), (pw_cell_below HB.out hw221_1), (pw_cell_below HB.out hw223_0), (pw_cell_below HB.out hw223_1)⟩ (fun hHeld => ?_)
          clear hK K
          refine norm_ (a' := ?_) ?_ ?_
          rotate_left
          ·show Act.put _ (some 28) _ = _
           simp only [Act.put, zl1, zl2, zl3, i64_w, i32_w]
           rfl
          refine pure_ (i := 11) (N := some 29) (v := ?_) (a' := ?_) #[Y,Y,Y,Y,Y,Y,Y,Y,Y,Y,Y,Y,Z,Y,Y,Y,Y,Y,Y,Y,Y,Z,Z,Z,Z] rfl rfl (any_of HT_.out (by kernel_rfl)) (fun _ _ _ h => h) (Or.inl ⟨by rfl, ?_⟩) ?_ ?_
          rotate_left
          ·intro w'
           go_simp
           with_reducible rfl
          rotate_left
          ·simp only [Act.put, zl1, zl2, zl3, i64_w, i32_w]
           rfl
          refine pure_ (i := 12) (N := some 30) (v := ?_) (a' := ?_) #[Y,Y,Y,Y,Y,Y,Y,Y,Y,Y,Y,Y,Y,Y,Y,Y,Y,Y,Y,Y,Y,Z,Z,Z,Z] rfl rfl (any_of HT_.out (by kernel_rfl)) (fun _ _ _ h => h) (Or.inl ⟨by rfl, ?_⟩) ?_ ?_
          rotate_left
          ·intro w'
           go_simp
           with_reducible rfl
          rotate_left
          ·simp only [Act.put, zl1, zl2, zl3, i64_w, i32_w]
           rfl
          refine one_ (i := 21) (N := some 39) #[Y,Y,Y,Y,Y,Y,Y,Y,Y,Y,Y,Y,Y,Y,Y,Y,Y,Y,Y,Y,Y,Y,Z,Z,Z] rfl rfl (one_of HT_.out (by kernel_rfl)) (by decide) (fun K hK => ?_)
          refine goes_ Tryd.func11 (by kernel_rfl) rfl #[.int .i64 ((rd_T52 s0_0 x4_1).f1)] (by rfl) rfl rfl (by (try simp only [List.map_toArray, List.map_cons, List.map_nil]); first | done | rfl | (simp only [List.length_drop, List.length_take]; rfl)) ?_
          with_reducible refine (hallmarkref06_Type.calls k1 ((rd_T52 s0_0 x4_1).f1) t224 _ A8.out).mono ?_
          rintro e w15 ⟨rfl, hb⟩
          have HS0_ := zh hb (hHeld.1)
          have HS1_ := zh hb (hHeld.2.1)
          have HS2_ := zh hb (hHeld.2.2.1)
          refine ⟨_, rfl, ?_⟩
          replace HK := zm (KeepBut.trans (by repeat (first | (with_reducible first | exact HK.out | apply KeepBut.set_ | apply keep_drewN | apply keep_drew | apply keep_alloc) | exact HK.out)) (KeepBut.of_below hb g none) (.inl rfl))
          replace HB := zm (below_step (by repeat (first | (with_reducible first | exact HB.out | apply below_alloc | apply pw_below_drewN | apply below_drew1 | refine below_set ?_ (IsS34.ge HI0.out)) | exact HB.out)) hb)
          replace HI0 := zm (IsS34.below (by repeat (first | (with_reducible first | exact HI0.out | apply IsS34.alloc | apply IsS34.drewN | apply IsS34.drew) | exact HI0.out)) hb)
          (try clear hb)
          (try clear hb2)
          (try clear hk)
          (try clear hi)
          refine hK.out _ _ ⟨HS0_, HS1_, HS2_, (pw_cell_below HB.out hw221_0), (pw_cell_below HB.out hw221_1), (pw_cell_below HB.out hw223_0), (pw_cell_below HB.out hw223_1)⟩ (fun hHeld => ?_)
          clear hK K
          refine norm_ (a' := ?_) ?_ ?_
          rotate_left
          ·show Act.put _ (some 39) _ = _
           simp only [Act.put, zl1, zl2, zl3, i64_w, i32_w]
           rfl
          refine pure_ (i := 22) (N := some 40) (v := ?_) (a' := ?_) #[Y,Y,Y,Y,Y,Y,Y,Y,Y,Y,Y,Y,Y,Y,Y,Y,Y,Y,Y,Y,Y,Y,Y,Z,Z] rfl rfl (any_of HT_.out (by kernel_rfl)) (fun _ _ _ h => h) (Or.inl ⟨by rfl, ?_⟩) ?_ ?_
          rotate_left
          ·intro w'
           go_simp
           with_reducible rfl
          rotate_left
          ·simp only [Act.put, zl1, zl2, zl3, i64_w, i32_w]
           rfl
          refine pure_ (i := 23) (N := some 41) (v := ?_) (a' := ?_) #[Y,Y,Y,Y,Y,Y,Y,Y,Y,Y,Y,Y,Y,Y,Y,Y,Y,Y,Y,Y,Y,Y,Y,Y,Z] rfl rfl (any_of HT_.out (by kernel_rfl)) (fun _ _ _ h => h) (Or.inl ⟨by rfl, ?_⟩) ?_ ?_
          rotate_left
          ·intro w'
           go_simp
           with_reducible rfl
          rotate_left
          ·simp only [Act.put, zl1, zl2, zl3, i64_w, i32_w]
           rfl
          refine pure_ (i := 24) (N := some 3) (v := ?_) (a' := ?_) #[Y,Y,Y,Y,Y,Y,Y,Y,Y,Y,Y,Y,Y,Y,Y,Y,Y,Y,Y,Y,Y,Y,Y,Y,Y] rfl rfl (any_of HT_.out (by kernel_rfl)) (fun _ _ _ h => h) (Or.inl ⟨by rfl, ?_⟩) ?_ ?_
          rotate_left
          ·intro w'
           go_simp
           with_reducible rfl
          rotate_left
          ·simp only [Act.put, zl1, zl2, zl3, i64_w, i32_w]
           rfl
          refine done_ (done_of HT_.out (by kernel_rfl)) ?_
          try go_wp2
          go_roundg k1
          case measure => have := HK1.out; omega
          case rel => exact ⟨(((((x3_1 ++ (⟨#[115, 105, 103, 32, 40]⟩ : ByteArray)) ++ t222) ++ (⟨#[41, 32]⟩ : ByteArray)) ++ t224) ++ (⟨#[10]⟩ : ByteArray)), (wrap64 (x4_1 + 1)), (by first | rfl | (simp; done) | (simp [*]; done) | (simp [*, wrap64]; done) | (simp [*]; unfold wrap64; omega)), (by first | rfl | (simp; done) | (simp [*]; done) | (simp [*, wrap64]; done) | (simp [*]; unfold wrap64; omega)), H', ⟨by have := HK1.out; omega⟩, ⟨by repeat (first | (with_reducible first | exact HI0.out | apply IsS34.alloc | apply IsS34.drewN | apply IsS34.drew) | exact HI0.out)⟩, ⟨by repeat (first | (with_reducible first | exact HK.out | apply KeepBut.set_ | apply keep_drewN | apply keep_drew | apply keep_alloc) | exact HK.out)⟩, ⟨by repeat (first | (with_reducible first | exact HB.out | apply below_alloc | apply pw_below_drewN | apply below_drew1 | refine below_set ?_ (IsS34.ge HI0.out)) | exact HB.out)⟩⟩
         ·rw [if_neg c10] at H
          exact absurd H (by simp)
        ·rw [if_neg c9] at H
         exact absurd H (by simp)
       ·rw [if_neg c7] at H
        exact absurd H (by simp)
      ·rw [if_neg c6] at H
       exact absurd H (by simp)
     ·rw [if_neg c4] at H
      exact absurd H (by simp)
    ·rw [if_neg c3] at H
     exact absurd H (by simp)
   ·rw [if_neg c2] at H
    have c2b0 : decide (x4_1 < (s0_0.length : Int)) = false := decide_eq_false c2
    clear c2
    have H' := zm H
    clear H
    obtain ⟨ASz16_0, cSz16_0, ASz16_1, cSz16_1, ASz16_2, cSz16_2, HGz16, hgz16, HSz16_0, HSz16_1, HSz16_2⟩ := HI0.out
    have hcz16_0 := cellS34_0 HGz16
    have hcz16_1 := cellS34_1 HGz16
    have hcz16_2 := cellS34_2 HGz16
    clear HGz16 hgz16
    go_wp2
    go_loopg [3, 5] k1 (fun kq v3 v5 w' => ∃ (x3_2 : ByteArray) (x5_2 : Int), v3 = .string x3_2 ∧ v5 = .int .i64 x5_2 ∧ Aside0 (hallmarkref06_Prog.l1 kq x3_2 x5_2 s0_0 s0_1 s0_2 = some r) ∧ Aside0 (kq ≤ k1) ∧ Aside0 (IsS34 w0 w' g s0_0 s0_1 s0_2) ∧ Aside0 (KeepBut w w' g none) ∧ Aside0 (Below w0.heap.size w0 w'))
    case atStart => exact ⟨(x3_1), (0), (by first | rfl | (simp; done) | (simp [*]; done) | (simp [*, wrap64]; done) | (simp [*]; unfold wrap64; omega)), (by first | rfl | (simp; done) | (simp [*]; done) | (simp [*, wrap64]; done) | (simp [*]; unfold wrap64; omega)), H', ⟨Nat.le_refl _⟩, ⟨by repeat (first | (with_reducible first | exact HI0.out | apply IsS34.alloc | apply IsS34.drewN | apply IsS34.drew) | exact HI0.out)⟩, ⟨by repeat (first | (with_reducible first | exact HK.out | apply KeepBut.set_ | apply keep_drewN | apply keep_drew | apply keep_alloc) | exact HK.out)⟩, ⟨by repeat (first | (with_reducible first | exact HB.out | apply below_alloc | apply pw_below_drewN | apply below_drew1 | refine below_set ?_ (IsS34.ge HI0.out)) | exact HB.out)⟩⟩
    case round =>
     clear H'
     try clear c1
     try clear hx1
     try clear c2
     try clear c2b0
     try clear p2
     try clear q2
     try clear hx2
     try clear c3
     try clear c3b0
     try clear c3b1
     try clear c3b2
     try clear c4
     try clear c4b0
     try clear c6
     try clear c6b0
     try clear c6b1
     try clear c6b2
     try clear p6
     try clear c7
     try clear c7b0
     try clear c7b1
     try clear c7b2
     try clear c9
     try clear c9b0
     try clear c9b1
     try clear c9b2
     try clear c10
     try clear c10b0
     try clear c10b1
     try clear c10b2
     try clear c11
     try clear hx13
     try clear c16
     try clear hcz11_0
     try clear hcz11_1
     try clear hcz11_2
     try clear hcz16_0
     try clear hcz16_1
     try clear hcz16_2
     try clear hx13_0
     try clear hx13_1
     try clear hx13_2
     try clear hx221_0
     try clear hx221_1
     try clear hx223_0
     try clear hx223_1
     try clear p221
     try clear p223
     try clear q221
     try clear q223
     obtain ⟨x3_2, x5_2, rfl, rfl, HA, HK2, HI0, HK, HB⟩ := hrel
     cases gk with
     | zero => exact absurd HA.out (by simp [hallmarkref06_Prog.l1])
     | succ k2 =>
      have H := HA.out
      clear HA
      simp only [hallmarkref06_Prog.l1] at H
      by_cases c17 : x5_2 < (s0_1.length : Int)
      ·rw [if_pos c17] at H
       have c17b0 : decide (x5_2 < (s0_1.length : Int)) = true := decide_eq_true c17
       clear c17
       by_cases c18 : x3_2.size + 7 ≤ 9223372036854775807
       ·rw [if_pos c18] at H
        have c18b0 := eq_true c18
        have c18b1 : decide (x3_2.size + 7 ≤ 9223372036854775807) = true := decide_eq_true c18
        try have c18b2 : (9223372036854775807 < x3_2.size + 7) = False := eq_false (Nat.not_lt.2 c18)
        by_cases c19 : 0 ≤ x5_2
        ·rw [if_pos c19] at H
         have c19b0 : decide (0 ≤ x5_2) = true := decide_eq_true c19
         clear c19
         replace H := Option.bind_eq_some_iff.mp H
         obtain ⟨t226, A200, H⟩ := H
         replace H : (if (x3_2 ++ (⟨#[99, 108, 97, 115, 115, 32, 40]⟩ : ByteArray)).size + t226.size ≤ 9223372036854775807 then (if ((x3_2 ++ (⟨#[99, 108, 97, 115, 115, 32, 40]⟩ : ByteArray)) ++ t226).size + 3 ≤ 9223372036854775807 then ((hallmarkref06_list.f k2 ((rd_T54 s0_1 x5_2).f1) 2).bind fun t228 => (if (((x3_2 ++ (⟨#[99, 108, 97, 115, 115, 32, 40]⟩ : ByteArray)) ++ t226) ++ (⟨#[41, 32, 91]⟩ : ByteArray)).size + t228.size ≤ 9223372036854775807 then (if ((((x3_2 ++ (⟨#[99, 108, 97, 115, 115, 32, 40]⟩ : ByteArray)) ++ t226) ++ (⟨#[41, 32, 91]⟩ : ByteArray)) ++ t228).size + 2 ≤ 9223372036854775807 then (hallmarkref06_Prog.l1 k2 (((((x3_2 ++ (⟨#[99, 108, 97, 115, 115, 32, 40]⟩ : ByteArray)) ++ t226) ++ (⟨#[41, 32, 91]⟩ : ByteArray)) ++ t228) ++ (⟨#[93, 10]⟩ : ByteArray)) (wrap64 (x5_2 + 1)) s0_0 s0_1 s0_2) else (none)) else (none))) else (none)) else (none)) = some r := H
         have A20 := zm A200
         clear A200
         by_cases c21 : (x3_2 ++ (⟨#[99, 108, 97, 115, 115, 32, 40]⟩ : ByteArray)).size + t226.size ≤ 9223372036854775807
         ·rw [if_pos c21] at H
          have c21b0 := eq_true c21
          have c21b1 : decide ((x3_2 ++ (⟨#[99, 108, 97, 115, 115, 32, 40]⟩ : ByteArray)).size + t226.size ≤ 9223372036854775807) = true := decide_eq_true c21
          have c21n := c21
          simp only [ByteArray.size_append, show (⟨#[99, 108, 97, 115, 115, 32, 40]⟩ : ByteArray).size = 7 from rfl] at c21n
          have c21n0 := eq_true c21n
          have c21n1 := decide_eq_true c21n
          have c21n2 := eq_false (Nat.not_lt.2 c21n)
          clear c21n
          try have c21b2 : (9223372036854775807 < (x3_2 ++ (⟨#[99, 108, 97, 115, 115, 32, 40]⟩ : ByteArray)).size + t226.size) = False := eq_false (Nat.not_lt.2 c21)
          by_cases c22 : ((x3_2 ++ (⟨#[99, 108, 97, 115, 115, 32, 40]⟩ : ByteArray)) ++ t226).size + 3 ≤ 9223372036854775807
          ·rw [if_pos c22] at H
           have c22b0 := eq_true c22
           have c22b1 : decide (((x3_2 ++ (⟨#[99, 108, 97, 115, 115, 32, 40]⟩ : ByteArray)) ++ t226).size + 3 ≤ 9223372036854775807) = true := decide_eq_true c22
           have c22n := c22
           simp only [ByteArray.size_append, show (⟨#[99, 108, 97, 115, 115, 32, 40]⟩ : ByteArray).size = 7 from rfl] at c22n
           have c22n0 := eq_true c22n
           have c22n1 := decide_eq_true c22n
           have c22n2 := eq_false (Nat.not_lt.2 c22n)
           clear c22n
           try have c22b2 : (9223372036854775807 < ((x3_2 ++ (⟨#[99, 108, 97, 115, 115, 32, 40]⟩ : ByteArray)) ++ t226).size + 3) = False := eq_false (Nat.not_lt.2 c22)
           replace H := Option.bind_eq_some_iff.mp H
           obtain ⟨t228, A230, H⟩ := H
           replace H : (if (((x3_2 ++ (⟨#[99, 108, 97, 115, 115, 32, 40]⟩ : ByteArray)) ++ t226) ++ (⟨#[41, 32, 91]⟩ : ByteArray)).size + t228.size ≤ 9223372036854775807 then (if ((((x3_2 ++ (⟨#[99, 108, 97, 115, 115, 32, 40]⟩ : ByteArray)) ++ t226) ++ (⟨#[41, 32, 91]⟩ : ByteArray)) ++ t228).size + 2 ≤ 9223372036854775807 then (hallmarkref06_Prog.l1 k2 (((((x3_2 ++ (⟨#[99, 108, 97, 115, 115, 32, 40]⟩ : ByteArray)) ++ t226) ++ (⟨#[41, 32, 91]⟩ : ByteArray)) ++ t228) ++ (⟨#[93, 10]⟩ : ByteArray)) (wrap64 (x5_2 + 1)) s0_0 s0_1 s0_2) else (none)) else (none)) = some r := H
           have A23 := zm A230
           clear A230
           by_cases c24 : (((x3_2 ++ (⟨#[99, 108, 97, 115, 115, 32, 40]⟩ : ByteArray)) ++ t226) ++ (⟨#[41, 32, 91]⟩ : ByteArray)).size + t228.size ≤ 9223372036854775807
           ·rw [if_pos c24] at H
            have c24b0 := eq_true c24
            have c24b1 : decide ((((x3_2 ++ (⟨#[99, 108, 97, 115, 115, 32, 40]⟩ : ByteArray)) ++ t226) ++ (⟨#[41, 32, 91]⟩ : ByteArray)).size + t228.size ≤ 9223372036854775807) = true := decide_eq_true c24
            have c24n := c24
            simp only [ByteArray.size_append, show (⟨#[41, 32, 91]⟩ : ByteArray).size = 3 from rfl, show (⟨#[99, 108, 97, 115, 115, 32, 40]⟩ : ByteArray).size = 7 from rfl] at c24n
            have c24n0 := eq_true c24n
            have c24n1 := decide_eq_true c24n
            have c24n2 := eq_false (Nat.not_lt.2 c24n)
            clear c24n
            try have c24b2 : (9223372036854775807 < (((x3_2 ++ (⟨#[99, 108, 97, 115, 115, 32, 40]⟩ : ByteArray)) ++ t226) ++ (⟨#[41, 32, 91]⟩ : ByteArray)).size + t228.size) = False := eq_false (Nat.not_lt.2 c24)
            by_cases c25 : ((((x3_2 ++ (⟨#[99, 108, 97, 115, 115, 32, 40]⟩ : ByteArray)) ++ t226) ++ (⟨#[41, 32, 91]⟩ : ByteArray)) ++ t228).size + 2 ≤ 9223372036854775807
            ·rw [if_pos c25] at H
             have c25b0 := eq_true c25
             have c25b1 : decide (((((x3_2 ++ (⟨#[99, 108, 97, 115, 115, 32, 40]⟩ : ByteArray)) ++ t226) ++ (⟨#[41, 32, 91]⟩ : ByteArray)) ++ t228).size + 2 ≤ 9223372036854775807) = true := decide_eq_true c25
             have c25n := c25
             simp only [ByteArray.size_append, show (⟨#[41, 32, 91]⟩ : ByteArray).size = 3 from rfl, show (⟨#[99, 108, 97, 115, 115, 32, 40]⟩ : ByteArray).size = 7 from rfl] at c25n
             have c25n0 := eq_true c25n
             have c25n1 := decide_eq_true c25n
             have c25n2 := eq_false (Nat.not_lt.2 c25n)
             clear c25n
             try have c25b2 : (9223372036854775807 < ((((x3_2 ++ (⟨#[99, 108, 97, 115, 115, 32, 40]⟩ : ByteArray)) ++ t226) ++ (⟨#[41, 32, 91]⟩ : ByteArray)) ++ t228).size + 2) = False := eq_false (Nat.not_lt.2 c25)
             have H' := zm H
             clear H
             obtain ⟨ASz26_0, cSz26_0, ASz26_1, cSz26_1, ASz26_2, cSz26_2, HGz26, hgz26, HSz26_0, HSz26_1, HSz26_2⟩ := HI0.out
             have hcz26_0 := cellS34_0 HGz26
             have hcz26_1 := cellS34_1 HGz26
             have hcz26_2 := cellS34_2 HGz26
             clear HGz26 hgz26
             try go_wp2
             replace HI0 := zm (IsS34.drew HI0.out)
             replace HK := zm (keep_drew HK.out)
             replace HB := zm (below_drew1 HB.out)
             obtain ⟨AS28_0, cS28_0, AS28_1, cS28_1, AS28_2, cS28_2, HG28, hg28, HS28_0, HS28_1, HS28_2⟩ := HI0.out
             have hx28_0 := cellS34_0 HG28
             have hx28_1 := cellS34_1 HG28
             have hx28_2 := cellS34_2 HG28
             clear HG28 hg28
             have p225 : 0 ≤ (x5_2 : Int) := of_decide_eq_true (by first | (with_reducible assumption) | assumption)
             have q225 : x5_2 < (s0_1.length : Int) := of_decide_eq_true (by first | (with_reducible assumption) | assumption)
             obtain ⟨ad225, A225_0, c225_0, A225_1, c225_1, e225, hx225_0, hx225_1, hl225_0, hi225_0, hl225_1, hi225_1⟩ := at_T54 HS28_1 x5_2 p225 q225
             have hw225_1 := hx225_1
             have hw225_0 := hx225_0
             cases e225
             replace hx225_0 := pw_cell_below HB.out hx225_0
             replace hx225_1 := pw_cell_below HB.out hx225_1
             have HZ225_0 := zm hi225_0
             have HC225_0 := zm hl225_0
             clear hi225_0 hl225_0
             have HR225_0 := zm (Kd.C_below HZ225_0.out HB.out)
             have HZ225_1 := zm hi225_1
             have HC225_1 := zm hl225_1
             clear hi225_1 hl225_1
             have HR225_1 := zm (Kd.C_below HZ225_1.out HB.out)
             replace p225 := eq_true p225
             replace q225 := eq_true q225
             have p227 : 0 ≤ (x5_2 : Int) := of_decide_eq_true (by first | (with_reducible assumption) | assumption)
             have q227 : x5_2 < (s0_1.length : Int) := of_decide_eq_true (by first | (with_reducible assumption) | assumption)
             obtain ⟨ad227, A227_0, c227_0, A227_1, c227_1, e227, hx227_0, hx227_1, hl227_0, hi227_0, hl227_1, hi227_1⟩ := at_T54 HS28_1 x5_2 p227 q227
             have hw227_1 := hx227_1
             have hw227_0 := hx227_0
             obtain rfl : ad225 = ad227 := (by injection e227)
             replace hx227_0 := pw_cell_below HB.out hx227_0
             replace hx227_1 := pw_cell_below HB.out hx227_1
             have HZ227_0 := zm hi227_0
             have HC227_0 := zm hl227_0
             clear hi227_0 hl227_0
             have HR227_0 := zm (Kd.C_below HZ227_0.out HB.out)
             have HZ227_1 := zm hi227_1
             have HC227_1 := zm hl227_1
             clear hi227_1 hl227_1
             have HR227_1 := zm (Kd.C_below HZ227_1.out HB.out)
             replace p227 := eq_true p227
             replace q227 := eq_true q227
             have ea_ := Option.some.inj (hx225_0.symm.trans hx227_0)
             injection ea_ with ea_ en_ ec_
             subst ea_
             subst ec_
             clear en_
             have ea_ := Option.some.inj (hx225_1.symm.trans hx227_1)
             injection ea_ with ea_ en_ ec_
             subst ea_
             subst ec_
             clear en_
             refine start_ (n := 25) (S := fun w' => w'.cell? ⟨g, 0, none⟩ = some (.slice AS28_0 s0_0.length cS28_0) ∧ w'.cell? ⟨g, 1, none⟩ = some (.slice (some ad225) s0_1.length cS28_1) ∧ w'.cell? ⟨g, 2, none⟩ = some (.slice AS28_2 s0_2.length cS28_2) ∧ w'.cell? (ad225.add ((x5_2).toNat * 2)) = some (.slice A225_0 ((rd_T54 s0_1 x5_2).f0).length c225_0) ∧ w'.cell? ⟨(ad225.add ((x5_2).toNat * 2)).block, (ad225.add ((x5_2).toNat * 2)).off + 1, none⟩ = some (.slice A225_1 ((rd_T54 s0_1 x5_2).f1).length c225_1) ∧ w'.cell? (ad225.add ((x5_2).toNat * 2)) = some (.slice A225_0 ((rd_T54 s0_1 x5_2).f0).length c225_0) ∧ w'.cell? ⟨(ad225.add ((x5_2).toNat * 2)).block, (ad225.add ((x5_2).toNat * 2)).off + 1, none⟩ = some (.slice A225_1 ((rd_T54 s0_1 x5_2).f1).length c225_1)) (ds := []) #[Z,Z,Z,Z,Z,Z,Z,Z,Z,Z,Z,Z,Z,Z,Z,Z,Z,Z,Z,Z,Z,Z,Z,Z,Z] (by kernel_rfl) rfl rfl ⟨hx28_0, hx28_1, hx28_2, (pw_cell_below HB.out hw225_0), (pw_cell_below HB.out hw225_1), (pw_cell_below HB.out hw227_0), (pw_cell_below HB.out hw227_1)⟩ (fun hHeld => ?_); refine with_tabW hallmarkref06_Prog.tab11 hallmarkref06_Prog.bits11 (fun HT_ HW_ => ?_)
             generalize wr.drew = w27 at HI0 HK HB HR225_0 HR225_1 HR227_0 HR227_1 hx225_0 hx225_1 hx227_0 hx227_1 hx28_0 hx28_1 hx28_2 hHeld ⊢
             refine pure_ (i := 0) (N := some 51) (v := ?_) (a' := ?_) #[Y,Z,Z,Z,Z,Z,Z,Z,Z,Z,Z,Z,Z,Z,Z,Z,Z,Z,Z,Z,Z,Z,Z,Z,Z] rfl rfl (any_of HT_.out (by kernel_rfl)) (fun _ _ _ h => h) (Or.inl ⟨by rfl, ?_⟩) ?_ ?_
             rotate_left
             ·intro w'
              go_simp
              with_reducible rfl
             rotate_left
             ·simp only [Act.put, zl1, zl2, zl3, i64_w, i32_w]
              rfl
             refine pure_ (i := 1) (N := some 52) (v := ?_) (a' := ?_) #[Y,Y,Z,Z,Z,Z,Z,Z,Z,Z,Z,Z,Z,Z,Z,Z,Z,Z,Z,Z,Z,Z,Z,Z,Z] rfl rfl (any_of HT_.out (by kernel_rfl)) (fun _ _ _ h => h) (Or.inl ⟨by rfl, ?_⟩) ?_ ?_
             rotate_left
             ·intro w'
              go_simp
              with_reducible rfl
             rotate_left
             ·simp only [Act.put, zl1, zl2, zl3, i64_w, i32_w]
              rfl
             refine pure_ (i := 2) (N := some 53) (v := ?_) (a' := ?_) #[Y,Y,Y,Z,Z,Z,Z,Z,Z,Z,Z,Z,Z,Z,Z,Z,Z,Z,Z,Z,Z,Z,Z,Z,Z] rfl rfl (any_of HT_.out (by kernel_rfl)) (fun _ _ _ h => h) (Or.inl ⟨by rfl, ?_⟩) ?_ ?_
             rotate_left
             ·intro w'
              go_simp
              with_reducible rfl
             rotate_left
             ·simp only [Act.put, zl1, zl2, zl3, i64_w, i32_w]
              rfl
             refine pure_ (i := 3) (N := some 54) (v := ?_) (a' := ?_) #[Y,Y,Y,Y,Z,Z,Z,Z,Z,Z,Z,Z,Z,Z,Z,Z,Z,Z,Z,Z,Z,Z,Z,Z,Z] rfl rfl (any_of HT_.out (by kernel_rfl)) (fun _ _ _ h => h) (Or.inl ⟨by rfl, ?_⟩) ?_ ?_
             rotate_left
             ·intro w'
              go_simp
              with_reducible rfl
             rotate_left
             ·simp only [Act.put, zl1, zl2, zl3, i64_w, i32_w]
              rfl
             refine pure_ (i := 4) (N := some 55) (v := ?_) (a' := ?_) #[Y,Y,Y,Y,Y,Z,Z,Z,Z,Z,Z,Z,Z,Z,Z,Z,Z,Z,Z,Z,Z,Z,Z,Z,Z] rfl rfl (any_of HT_.out (by kernel_rfl)) (fun _ _ _ h => h) (Or.inl ⟨by rfl, ?_⟩) ?_ ?_
             rotate_left
             ·intro w'
              go_simp
              with_reducible rfl
             rotate_left
             ·simp only [Act.put, zl1, zl2, zl3, i64_w, i32_w]
              rfl
             refine pure_ (i := 6) (N := some 57) (v := ?_) (a' := ?_) #[Y,Y,Y,Y,Y,Z,Y,Z,Z,Z,Z,Z,Z,Z,Z,Z,Z,Z,Z,Z,Z,Z,Z,Z,Z] rfl rfl (any_of HT_.out (by kernel_rfl)) (fun _ _ _ h => h) (Or.inl ⟨by rfl, ?_⟩) ?_ ?_
             rotate_left
             ·intro w'
              go_simp
              with_reducible rfl
             rotate_left
             ·simp only [Act.put, zl1, zl2, zl3, i64_w, i32_w]
              rfl
             refine pure_ (i := 13) (N := some 64) (v := ?_) (a' := ?_) #[Y,Y,Y,Y,Y,Z,Y,Z,Z,Z,Z,Z,Z,Y,Z,Z,Z,Z,Z,Z,Z,Z,Z,Z,Z] rfl rfl (any_of HT_.out (by kernel_rfl)) (fun _ _ _ h => h) (Or.inl ⟨by rfl, ?_⟩) ?_ ?_
             rotate_left
             ·intro w'
              go_simp
              with_reducible rfl
             rotate_left
             ·simp only [Act.put, zl1, zl2, zl3, i64_w, i32_w]
              rfl
             refine pure_ (i := 14) (N := some 65) (v := ?_) (a' := ?_) #[Y,Y,Y,Y,Y,Z,Y,Z,Z,Z,Z,Z,Z,Y,Y,Z,Z,Z,Z,Z,Z,Z,Z,Z,Z] rfl rfl (any_of HT_.out (by kernel_rfl)) (fun _ _ _ h => h) (Or.inl ⟨by rfl, ?_⟩) ?_ ?_
             rotate_left
             ·intro w'
              go_simp
              with_reducible rfl
             rotate_left
             ·simp only [Act.put, zl1, zl2, zl3, i64_w, i32_w]
              rfl
             refine pure_ (i := 15) (N := some 66) (v := ?_) (a' := ?_) #[Y,Y,Y,Y,Y,Z,Y,Z,Z,Z,Z,Z,Z,Y,Y,Y,Z,Z,Z,Z,Z,Z,Z,Z,Z] rfl rfl (any_of HT_.out (by kernel_rfl)) (fun _ _ _ h => h) (Or.inl ⟨by rfl, ?_⟩) ?_ ?_
             rotate_left
             ·intro w'
              go_simp
              with_reducible rfl
             rotate_left
             ·simp only [Act.put, zl1, zl2, zl3, i64_w, i32_w]
              rfl
             refine pure_ (i := 17) (N := some 68) (v := ?_) (a' := ?_) #[Y,Y,Y,Y,Y,Z,Y,Z,Z,Z,Z,Z,Z,Y,Y,Y,Z,Y,Z,Z,Z,Z,Z,Z,Z] rfl rfl (any_of HT_.out (by kernel_rfl)) (fun _ _ _ h => h) (Or.inl ⟨by rfl, ?_⟩) ?_ ?_
             rotate_left
             ·intro w'
              go_simp
              with_reducible rfl
             rotate_left
             ·simp only [Act.put, zl1, zl2, zl3, i64_w, i32_w]
              rfl
             refine take_ (i := 5) (N := some 56) (v := ?_) (a' := ?_) #[Y,Y,Y,Y,Y,Y,Y,Z,Z,Z,Z,Z,Z,Y,Y,Y,Z,Y,Z,Z,Z,Z,Z,Z,Z] rfl rfl (take_ofW HT_.out HW_.out (by kernel_rfl)) (fun _ _ _ h => h) (Or.inl ⟨by rfl, ?_⟩) hHeld ?_ ?_
             rotate_left
             ·rintro w' ⟨s0, s1, s2, s3, s4, s5, s6⟩
              go_simp
              with_reducible rfl
             rotate_left
             ·simp only [Act.put, zl1, zl2, zl3, i64_w, i32_w]
              rfl
             refine pure_ (i := 7) (N := some 58) (v := ?_) (a' := ?_) #[Y,Y,Y,Y,Y,Y,Y,Y,Z,Z,Z,Z,Z,Y,Y,Y,Z,Y,Z,Z,Z,Z,Z,Z,Z] rfl rfl (any_of HT_.out (by kernel_rfl)) (fun _ _ _ h => h) (Or.inl ⟨by rfl, ?_⟩) ?_ ?_
             rotate_left
             ·intro w'
              go_simp
              with_reducible rfl
             rotate_left
             ·simp only [Act.put, zl1, zl2, zl3, i64_w, i32_w]
              rfl
             refine pure_ (i := 8) (N := some 59) (v := ?_) (a' := ?_) #[Y,Y,Y,Y,Y,Y,Y,Y,Y,Z,Z,Z,Z,Y,Y,Y,Z,Y,Z,Z,Z,Z,Z,Z,Z] rfl rfl (any_of HT_.out (by kernel_rfl)) (fun _ _ _ h => h) (Or.inl ⟨by rfl, ?_⟩) ?_ ?_
             rotate_left
             ·intro w'
              go_simp
              with_reducible rfl
             rotate_left
             ·simp only [Act.put, zl1, zl2, zl3, i64_w, i32_w]
              rfl
             refine take_ (i := 9) (N := some 60) (v := ?_) (a' := ?_) #[Y,Y,Y,Y,Y,Y,Y,Y,Y,Y,Z,Z,Z,Y,Y,Y,Z,Y,Z,Z,Z,Z,Z,Z,Z] rfl rfl (take_ofW HT_.out HW_.out (by kernel_rfl)) (fun _ _ _ h => h) (Or.inl ⟨by rfl, ?_⟩) hHeld ?_ ?_
             rotate_left
             ·rintro w' ⟨s0, s1, s2, s3, s4, s5, s6⟩
              go_simp
              with_reducible rfl
             rotate_left
             ·simp only [Act.put, zl1, zl2, zl3, i64_w, i32_w]
              rfl
             refine take_ (i := 16) (N := some 67) (v := ?_) (a' := ?_) #[Y,Y,Y,Y,Y,Y,Y,Y,Y,Y,Z,Z,Z,Y,Y,Y,Y,Y,Z,Z,Z,Z,Z,Z,Z] rfl rfl (take_ofW HT_.out HW_.out (by kernel_rfl)) (fun _ _ _ h => h) (Or.inl ⟨by rfl, ?_⟩) hHeld ?_ ?_
             rotate_left
             ·rintro w' ⟨s0, s1, s2, s3, s4, s5, s6⟩
              go_simp
              with_reducible rfl
             rotate_left
             ·simp only [Act.put, zl1, zl2, zl3, i64_w, i32_w]
              rfl
             refine pure_ (i := 18) (N := some 69) (v := ?_) (a' := ?_) #[Y,Y,Y,Y,Y,Y,Y,Y,Y,Y,Z,Z,Z,Y,Y,Y,Y,Y,Y,Z,Z,Z,Z,Z,Z] rfl rfl (any_of HT_.out (by kernel_rfl)) (fun _ _ _ h => h) (Or.inl ⟨by rfl, ?_⟩) ?_ ?_
             rotate_left
             ·intro w'
              go_simp
              with_reducible rfl
             rotate_left
             ·simp only [Act.put, zl1, zl2, zl3, i64_w, i32_w]
              rfl
             refine pure_ (i := 19) (N := some 70) (v := ?_) (a' := ?_) #[Y,Y,Y,Y,Y,Y,Y,Y,Y,Y,Z,Z,Z,Y,Y,Y,Y,Y,Y,Y,Z,Z,Z,Z,Z] rfl rfl (any_of HT_.out (by kernel_rfl)) (fun _ _ _ h => h) (Or.inl ⟨by rfl, ?_⟩) ?_ ?_
             rotate_left
             ·intro w'
              go_simp
              with_reducible rfl
             rotate_left
             ·simp only [Act.put, zl1, zl2, zl3, i64_w, i32_w]
              rfl
             refine take_ (i := 20) (N := some 71) (v := ?_) (a' := ?_) #[Y,Y,Y,Y,Y,Y,Y,Y,Y,Y,Z,Z,Z,Y,Y,Y,Y,Y,Y,Y,Y,Z,Z,Z,Z] rfl rfl (take_ofW HT_.out HW_.out (by kernel_rfl)) (fun _ _ _ h => h) (Or.inl ⟨by rfl, ?_⟩) hHeld ?_ ?_
             rotate_left
             ·rintro w' ⟨s0, s1, s2, s3, s4, s5, s6⟩
              go_simp
              with_reducible rfl
             rotate_left
             ·simp only [Act.put, zl1, zl2, zl3, i64_w, i32_w]
              rfl
             refine one_ (i := 10) (N := some 61) #[Y,Y,Y,Y,Y,Y,Y,Y,Y,Y,Y,Z,Z,Y,Y,Y,Y,Y,Y,Y,Y,Z,Z,Z,Z] rfl rfl (one_of HT_.out (by kernel_rfl)) (by decide) (fun K hK => ?_)
             refine goes_ Tryd.func25 (by kernel_rfl) rfl #[.slice A225_0 ((rd_T54 s0_1 x5_2).f0).length c225_0, .int .i64 0] (by rfl) rfl rfl (by (try simp only [List.map_toArray, List.map_cons, List.map_nil]); first | done | rfl | (simp only [List.length_drop, List.length_take]; rfl)) ?_
             with_reducible refine (hallmarkref06_list.calls k2 _ _ ((rd_T54 s0_1 x5_2).f0) 0 t226 _ ?side1 ?side2 A20.out).mono ?_
             (case side1 => repeat (first | exact HR225_0.out | (with_reducible refine Kd.C_alloc ?_ _) | (with_reducible refine Kd.C_drewN ?_ _) | (with_reducible refine Kd.C_drew ?_)))
             (case side2 => exact HC225_0.out)
             rintro e w29 ⟨rfl, hb⟩
             have HS0_ := zh hb (hHeld.1)
             have HS1_ := zh hb (hHeld.2.1)
             have HS2_ := zh hb (hHeld.2.2.1)
             refine ⟨_, rfl, ?_⟩
             replace HR227_1 := zm (Kd.C_below HR227_1.out hb)
             replace HK := zm (KeepBut.trans (by repeat (first | (with_reducible first | exact HK.out | apply KeepBut.set_ | apply keep_drewN | apply keep_drew | apply keep_alloc) | exact HK.out)) (KeepBut.of_below hb g none) (.inl rfl))
             replace HB := zm (below_step (by repeat (first | (with_reducible first | exact HB.out | apply below_alloc | apply pw_below_drewN | apply below_drew1 | refine below_set ?_ (IsS34.ge HI0.out)) | exact HB.out)) hb)
             replace HI0 := zm (IsS34.below (by repeat (first | (with_reducible first | exact HI0.out | apply IsS34.alloc | apply IsS34.drewN | apply IsS34.drew) | exact HI0.out)) hb)
             (try clear hb)
             (try clear hb2)
             (try clear hk)
             (try clear hi)
             refine hK.out _ _ ⟨HS0_, HS1_, HS2_, (pw_cell_below HB.out hw225_0), (pw_cell_below HB.out hw225_1), (pw_cell_below HB.out hw227_0), (pw_cell_below HB.out hw227_1)⟩ (fun hHeld => ?_)
             clear hK K
             refine norm_ (a' := ?_) ?_ ?_
             rotate_left
             ·show Act.put _ (some 61) _ = _
              simp only [Act.put, zl1, zl2, zl3, i64_w, i32_w]
              rfl
             refine pure_ (i := 11) (N := some 62) (v := ?_) (a' := ?_) #[Y,Y,Y,Y,Y,Y,Y,Y,Y,Y,Y,Y,Z,Y,Y,Y,Y,Y,Y,Y,Y,Z,Z,Z,Z] rfl rfl (any_of HT_.out (by kernel_rfl)) (fun _ _ _ h => h) (Or.inl ⟨by rfl, ?_⟩) ?_ ?_
             rotate_left
             ·intro w'
              go_simp
              with_reducible rfl
             rotate_left
             ·simp only [Act.put, zl1, zl2, zl3, i64_w, i32_w]
              rfl
             refine pure_ (i := 12) (N := some 63) (v := ?_) (a' := ?_) #[Y,Y,Y,Y,Y,Y,Y,Y,Y,Y,Y,Y,Y,Y,Y,Y,Y,Y,Y,Y,Y,Z,Z,Z,Z] rfl rfl (any_of HT_.out (by kernel_rfl)) (fun _ _ _ h => h) (Or.inl ⟨by rfl, ?_⟩) ?_ ?_
             rotate_left
             ·intro w'
              go_simp
              with_reducible rfl
             rotate_left
             ·simp only [Act.put, zl1, zl2, zl3, i64_w, i32_w]
              rfl
             refine one_ (i := 21) (N := some 72) #[Y,Y,Y,Y,Y,Y,Y,Y,Y,Y,Y,Y,Y,Y,Y,Y,Y,Y,Y,Y,Y,Y,Z,Z,Z] rfl rfl (one_of HT_.out (by kernel_rfl)) (by decide) (fun K hK => ?_)
             refine goes_ Tryd.func25 (by kernel_rfl) rfl #[.slice A225_1 ((rd_T54 s0_1 x5_2).f1).length c225_1, .int .i64 2] (by rfl) rfl rfl (by (try simp only [List.map_toArray, List.map_cons, List.map_nil]); first | done | rfl | (simp only [List.length_drop, List.length_take]; rfl)) ?_
             with_reducible refine (hallmarkref06_list.calls k2 _ _ ((rd_T54 s0_1 x5_2).f1) 2 t228 _ ?side1 ?side2 A23.out).mono ?_
             (case side1 => repeat (first | exact HR227_1.out | (with_reducible refine Kd.C_alloc ?_ _) | (with_reducible refine Kd.C_drewN ?_ _) | (with_reducible refine Kd.C_drew ?_)))
             (case side2 => exact HC227_1.out)
             rintro e w30 ⟨rfl, hb⟩
             have HS0_ := zh hb (hHeld.1)
             have HS1_ := zh hb (hHeld.2.1)
             have HS2_ := zh hb (hHeld.2.2.1)
             refine ⟨_, rfl, ?_⟩
             replace HK := zm (KeepBut.trans (by repeat (first | (with_reducible first | exact HK.out | apply KeepBut.set_ | apply keep_drewN | apply keep_drew | apply keep_alloc) | exact HK.out)) (KeepBut.of_below hb g none) (.inl rfl))
             replace HB := zm (below_step (by repeat (first | (with_reducible first | exact HB.out | apply below_alloc | apply pw_below_drewN | apply below_drew1 | refine below_set ?_ (IsS34.ge HI0.out)) | exact HB.out)) hb)
             replace HI0 := zm (IsS34.below (by repeat (first | (with_reducible first | exact HI0.out | apply IsS34.alloc | apply IsS34.drewN | apply IsS34.drew) | exact HI0.out)) hb)
             (try clear hb)
             (try clear hb2)
             (try clear hk)
             (try clear hi)
             refine hK.out _ _ ⟨HS0_, HS1_, HS2_, (pw_cell_below HB.out hw225_0), (pw_cell_below HB.out hw225_1), (pw_cell_below HB.out hw227_0), (pw_cell_below HB.out hw227_1)⟩ (fun hHeld => ?_)
             clear hK K
             refine norm_ (a' := ?_) ?_ ?_
             rotate_left
             ·show Act.put _ (some 72) _ = _
              simp only [Act.put, zl1, zl2, zl3, i64_w, i32_w]
              rfl
             refine pure_ (i := 22) (N := some 73) (v := ?_) (a' := ?_) #[Y,Y,Y,Y,Y,Y,Y,Y,Y,Y,Y,Y,Y,Y,Y,Y,Y,Y,Y,Y,Y,Y,Y,Z,Z] rfl rfl (any_of HT_.out (by kernel_rfl)) (fun _ _ _ h => h) (Or.inl ⟨by rfl, ?_⟩) ?_ ?_
             rotate_left
             ·intro w'
              go_simp
              with_reducible rfl
             rotate_left
             ·simp only [Act.put, zl1, zl2, zl3, i64_w, i32_w]
              rfl
             refine pure_ (i := 23) (N := some 74) (v := ?_) (a' := ?_) #[Y,Y,Y,Y,Y,Y,Y,Y,Y,Y,Y,Y,Y,Y,Y,Y,Y,Y,Y,Y,Y,Y,Y,Y,Z] rfl rfl (any_of HT_.out (by kernel_rfl)) (fun _ _ _ h => h) (Or.inl ⟨by rfl, ?_⟩) ?_ ?_
             rotate_left
             ·intro w'
              go_simp
              with_reducible rfl
             rotate_left
             ·simp only [Act.put, zl1, zl2, zl3, i64_w, i32_w]
              rfl
             refine pure_ (i := 24) (N := some 3) (v := ?_) (a' := ?_) #[Y,Y,Y,Y,Y,Y,Y,Y,Y,Y,Y,Y,Y,Y,Y,Y,Y,Y,Y,Y,Y,Y,Y,Y,Y] rfl rfl (any_of HT_.out (by kernel_rfl)) (fun _ _ _ h => h) (Or.inl ⟨by rfl, ?_⟩) ?_ ?_
             rotate_left
             ·intro w'
              go_simp
              with_reducible rfl
             rotate_left
             ·simp only [Act.put, zl1, zl2, zl3, i64_w, i32_w]
              rfl
             refine done_ (done_of HT_.out (by kernel_rfl)) ?_
             try go_wp2
             go_roundg k2
             case measure => have := HK1.out; have := HK2.out; omega
             case rel => exact ⟨(((((x3_2 ++ (⟨#[99, 108, 97, 115, 115, 32, 40]⟩ : ByteArray)) ++ t226) ++ (⟨#[41, 32, 91]⟩ : ByteArray)) ++ t228) ++ (⟨#[93, 10]⟩ : ByteArray)), (wrap64 (x5_2 + 1)), (by first | rfl | (simp; done) | (simp [*]; done) | (simp [*, wrap64]; done) | (simp [*]; unfold wrap64; omega)), (by first | rfl | (simp; done) | (simp [*]; done) | (simp [*, wrap64]; done) | (simp [*]; unfold wrap64; omega)), H', ⟨by have := HK1.out; have := HK2.out; omega⟩, ⟨by repeat (first | (with_reducible first | exact HI0.out | apply IsS34.alloc | apply IsS34.drewN | apply IsS34.drew) | exact HI0.out)⟩, ⟨by repeat (first | (with_reducible first | exact HK.out | apply KeepBut.set_ | apply keep_drewN | apply keep_drew | apply keep_alloc) | exact HK.out)⟩, ⟨by repeat (first | (with_reducible first | exact HB.out | apply below_alloc | apply pw_below_drewN | apply below_drew1 | refine below_set ?_ (IsS34.ge HI0.out)) | exact HB.out)⟩⟩
            ·rw [if_neg c25] at H
             exact absurd H (by simp)
           ·rw [if_neg c24] at H
            exact absurd H (by simp)
          ·rw [if_neg c22] at H
           exact absurd H (by simp)
         ·rw [if_neg c21] at H
          exact absurd H (by simp)
        ·rw [if_neg c19] at H
         exact absurd H (by simp)
       ·rw [if_neg c18] at H
        exact absurd H (by simp)
      ·rw [if_neg c17] at H
       have c17b0 : decide (x5_2 < (s0_1.length : Int)) = false := decide_eq_false c17
       clear c17
       have H' := zm H
       clear H
       obtain ⟨ASz31_0, cSz31_0, ASz31_1, cSz31_1, ASz31_2, cSz31_2, HGz31, hgz31, HSz31_0, HSz31_1, HSz31_2⟩ := HI0.out
       have hcz31_0 := cellS34_0 HGz31
       have hcz31_1 := cellS34_1 HGz31
       have hcz31_2 := cellS34_2 HGz31
       clear HGz31 hgz31
       go_wp2
       go_loopg [3, 6] k2 (fun kq v3 v6 w' => ∃ (x3_3 : ByteArray) (x6_3 : Int), v3 = .string x3_3 ∧ v6 = .int .i64 x6_3 ∧ Aside0 (hallmarkref06_Prog.l2 kq x3_3 x6_3 s0_0 s0_1 s0_2 = some r) ∧ Aside0 (kq ≤ k2) ∧ Aside0 (IsS34 w0 w' g s0_0 s0_1 s0_2) ∧ Aside0 (KeepBut w w' g none) ∧ Aside0 (Below w0.heap.size w0 w'))
       case atStart => exact ⟨(x3_2), (0), (by first | rfl | (simp; done) | (simp [*]; done) | (simp [*, wrap64]; done) | (simp [*]; unfold wrap64; omega)), (by first | rfl | (simp; done) | (simp [*]; done) | (simp [*, wrap64]; done) | (simp [*]; unfold wrap64; omega)), H', ⟨Nat.le_refl _⟩, ⟨by repeat (first | (with_reducible first | exact HI0.out | apply IsS34.alloc | apply IsS34.drewN | apply IsS34.drew) | exact HI0.out)⟩, ⟨by repeat (first | (with_reducible first | exact HK.out | apply KeepBut.set_ | apply keep_drewN | apply keep_drew | apply keep_alloc) | exact HK.out)⟩, ⟨by repeat (first | (with_reducible first | exact HB.out | apply below_alloc | apply pw_below_drewN | apply below_drew1 | refine below_set ?_ (IsS34.ge HI0.out)) | exact HB.out)⟩⟩
       case round =>
        clear H'
        try clear c1
        try clear hx1
        try clear c2
        try clear c2b0
        try clear p2
        try clear q2
        try clear hx2
        try clear c3
        try clear c3b0
        try clear c3b1
        try clear c3b2
        try clear c4
        try clear c4b0
        try clear c6
        try clear c6b0
        try clear c6b1
        try clear c6b2
        try clear p6
        try clear c7
        try clear c7b0
        try clear c7b1
        try clear c7b2
        try clear c9
        try clear c9b0
        try clear c9b1
        try clear c9b2
        try clear c10
        try clear c10b0
        try clear c10b1
        try clear c10b2
        try clear c11
        try clear hx13
        try clear c16
        try clear c17
        try clear c17b0
        try clear c18
        try clear c18b0
        try clear c18b1
        try clear c18b2
        try clear c19
        try clear c19b0
        try clear c21
        try clear c21b0
        try clear c21b1
        try clear c21b2
        try clear c22
        try clear c22b0
        try clear c22b1
        try clear c22b2
        try clear p22
        try clear q22
        try clear hx22
        try clear c24
        try clear c24b0
        try clear c24b1
        try clear c24b2
        try clear c25
        try clear c25b0
        try clear c25b1
        try clear c25b2
        try clear hx28
        try clear hcz11_0
        try clear hcz11_1
        try clear hcz11_2
        try clear hcz16_0
        try clear hcz16_1
        try clear hcz16_2
        try clear hcz26_0
        try clear hcz26_1
        try clear hcz26_2
        try clear hcz31_0
        try clear hcz31_1
        try clear hcz31_2
        try clear hx13_0
        try clear hx13_1
        try clear hx13_2
        try clear hx221_0
        try clear hx221_1
        try clear hx223_0
        try clear hx223_1
        try clear hx225_0
        try clear hx225_1
        try clear hx227_0
        try clear hx227_1
        try clear hx28_0
        try clear hx28_1
        try clear hx28_2
        try clear p2
        try clear p221
        try clear p223
        try clear p225
        try clear p227
        try clear p6
        try clear q2
        try clear q221
        try clear q223
        try clear q225
        try clear q227
        obtain ⟨x3_3, x6_3, rfl, rfl, HA, HK3, HI0, HK, HB⟩ := hrel
        cases gk with
        | zero => exact absurd HA.out (by simp [hallmarkref06_Prog.l2])
        | succ k3 =>
         have H := HA.out
         clear HA
         simp only [hallmarkref06_Prog.l2] at H
         by_cases c32 : x6_3 < (s0_2.length : Int)
         ·rw [if_pos c32] at H
          have c32b0 : decide (x6_3 < (s0_2.length : Int)) = true := decide_eq_true c32
          clear c32
          by_cases c33 : 0 ≤ x6_3
          ·rw [if_pos c33] at H
           have c33b0 : decide (0 ≤ x6_3) = true := decide_eq_true c33
           clear c33
           replace H := Option.bind_eq_some_iff.mp H
           obtain ⟨t230, A340, H⟩ := H
           replace H : (if x3_3.size + t230.size ≤ 9223372036854775807 then (hallmarkref06_Prog.l2 k3 (x3_3 ++ t230) (wrap64 (x6_3 + 1)) s0_0 s0_1 s0_2) else (none)) = some r := H
           have A34 := zm A340
           clear A340
           by_cases c35 : x3_3.size + t230.size ≤ 9223372036854775807
           ·rw [if_pos c35] at H
            have c35b0 := eq_true c35
            have c35b1 : decide (x3_3.size + t230.size ≤ 9223372036854775807) = true := decide_eq_true c35
            try have c35b2 : (9223372036854775807 < x3_3.size + t230.size) = False := eq_false (Nat.not_lt.2 c35)
            have H' := zm H
            clear H
            obtain ⟨ASz36_0, cSz36_0, ASz36_1, cSz36_1, ASz36_2, cSz36_2, HGz36, hgz36, HSz36_0, HSz36_1, HSz36_2⟩ := HI0.out
            have hcz36_0 := cellS34_0 HGz36
            have hcz36_1 := cellS34_1 HGz36
            have hcz36_2 := cellS34_2 HGz36
            clear HGz36 hgz36
            have p229 : 0 ≤ (x6_3 : Int) := of_decide_eq_true (by first | (with_reducible assumption) | assumption)
            have q229 : x6_3 < (s0_2.length : Int) := of_decide_eq_true (by first | (with_reducible assumption) | assumption)
            obtain ⟨ad229, A229_1, c229_1, e229, hx229_0, hx229_1, hl229_1, hi229_1⟩ := at_T44 HSz36_2 x6_3 p229 q229
            cases e229
            replace hx229_0 := pw_cell_below HB.out hx229_0
            replace hx229_1 := pw_cell_below HB.out hx229_1
            have HZ229_1 := zm hi229_1
            have HC229_1 := zm hl229_1
            clear hi229_1 hl229_1
            have HR229_1 := zm (Kd.C_below HZ229_1.out HB.out)
            replace p229 := eq_true p229
            replace q229 := eq_true q229
            go_wp2_with (first | ((with_reducible refine gate_callee (f := 18) rfl ?_); refine goesL_ (some 92) rfl rfl Tryd.func18 (by kernel_rfl) rfl #[.agg #[.int .i64 ((rd_T44 s0_2 x6_3).f0), .slice A229_1 ((rd_T44 s0_2 x6_3).f1).length c229_1]] rfl (by (try simp only [List.map_toArray, List.map_cons, List.map_nil]); first | done | rfl | (simp only [List.length_drop, List.length_take]; rfl)) ?_; (with_reducible refine (hallmarkref06_Func.calls k3 ((rd_T44 s0_2 x6_3).f0) _ _ ((rd_T44 s0_2 x6_3).f1) t230 _ ?side1 ?side2 A34.out).mono ?_); (case side1 => repeat (first | exact HR229_1.out | (with_reducible refine Kd.C_alloc ?_ _) | (with_reducible refine Kd.C_drewN ?_ _) | (with_reducible refine Kd.C_drew ?_))); (case side2 => exact HC229_1.out); rintro e w37 ⟨rfl, hb⟩; refine ⟨_, rfl, ?_⟩; have n0_ := zm (IsS34.below (by repeat (first | (with_reducible first | exact HI0.out | apply IsS34.alloc | apply IsS34.drewN | apply IsS34.drew) | exact HI0.out)) hb); have n1_ := zm (Kd.C_below (by repeat (first | (with_reducible exact HR229_1.out) | (with_reducible refine Kd.C_alloc ?_ _) | (with_reducible refine Kd.C_drewN ?_ _) | (with_reducible refine Kd.C_drew ?_) | exact HR229_1.out)) hb); have n2_ := zm (KeepBut.trans (by repeat (first | (with_reducible first | exact HK.out | apply KeepBut.set_ | apply keep_drewN | apply keep_drew | apply keep_alloc) | exact HK.out)) (KeepBut.of_below hb g none) (.inl rfl)); have n3_ := zm (below_step (by repeat (first | (with_reducible first | exact HB.out | apply below_alloc | apply pw_below_drewN | apply below_drew1 | refine below_set ?_ (IsS34.ge HI0.out)) | exact HB.out)) hb); clear HI0; clear HR229_1; clear HK; clear HB; have HI0 := n0_; have HR229_1 := n1_; have HK := n2_; have HB := n3_; clear n0_ n1_ n2_ n3_; (try clear hb); (try clear hb2); (try clear hk); (try clear hi)))
            go_roundg k3
            case measure => have := HK1.out; have := HK2.out; have := HK3.out; omega
            case rel => exact ⟨(x3_3 ++ t230), (wrap64 (x6_3 + 1)), (by first | rfl | (simp; done) | (simp [*]; done) | (simp [*, wrap64]; done) | (simp [*]; unfold wrap64; omega)), (by first | rfl | (simp; done) | (simp [*]; done) | (simp [*, wrap64]; done) | (simp [*]; unfold wrap64; omega)), H', ⟨by have := HK1.out; have := HK2.out; have := HK3.out; omega⟩, ⟨by repeat (first | (with_reducible first | exact HI0.out | apply IsS34.alloc | apply IsS34.drewN | apply IsS34.drew) | exact HI0.out)⟩, ⟨by repeat (first | (with_reducible first | exact HK.out | apply KeepBut.set_ | apply keep_drewN | apply keep_drew | apply keep_alloc) | exact HK.out)⟩, ⟨by repeat (first | (with_reducible first | exact HB.out | apply below_alloc | apply pw_below_drewN | apply below_drew1 | refine below_set ?_ (IsS34.ge HI0.out)) | exact HB.out)⟩⟩
           ·rw [if_neg c35] at H
            exact absurd H (by simp)
          ·rw [if_neg c33] at H
           exact absurd H (by simp)
         ·rw [if_neg c32] at H
          have c32b0 : decide (x6_3 < (s0_2.length : Int)) = false := decide_eq_false c32
          clear c32
          obtain rfl := Option.some.inj H
          obtain ⟨ASz38_0, cSz38_0, ASz38_1, cSz38_1, ASz38_2, cSz38_2, HGz38, hgz38, HSz38_0, HSz38_1, HSz38_2⟩ := HI0.out
          have hcz38_0 := cellS34_0 HGz38
          have hcz38_1 := cellS34_1 HGz38
          have hcz38_2 := cellS34_2 HGz38
          clear HGz38 hgz38
          go_wp2
          go_ret
          exact ⟨by first | rfl | (simp [errW_none, errW_some] <;> rfl) | (simp [*, errW_none, errW_some] <;> rfl), by repeat (first | (with_reducible first | exact HI0.out | apply IsS34.alloc | apply IsS34.drewN | apply IsS34.drew) | exact HI0.out), by repeat (first | (with_reducible first | exact HB.out | apply below_alloc | apply pw_below_drewN | apply below_drew1 | refine below_set ?_ (IsS34.ge HI0.out)) | exact HB.out), by repeat (first | (with_reducible first | exact HK.out | apply KeepBut.set_ | apply keep_drewN | apply keep_drew | apply keep_alloc) | exact HK.out)⟩

end Go.Proofs.YtojmepkhbebllaaDoor.PShowProgs
