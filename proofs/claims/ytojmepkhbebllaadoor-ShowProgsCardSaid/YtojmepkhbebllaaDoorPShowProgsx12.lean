-- written by wip/print2.py
import Derived.Test.YtojmepkhbebllaaDoorPShowProgsx0
import Derived.Test.YtojmepkhbebllaaDoorPShowProgsx8
import Derived.Test.YtojmepkhbebllaaDoorPShowProgsx10
namespace Go.Proofs.YtojmepkhbebllaaDoor.PShowProgs
open Go.RowKit Go.Proofs.YtojmepkhbebllaaDoorW.PrintWords Go.Proofs.YtojmepkhbebllaaDoorW.PrintLast Go.Proofs.YtojmepkhbebllaaDoorW.PrintMore
attribute [local go_sem] max2_int min2_int max_two min_two max_three min_three max_four min_four   -- for this text's walks alone
set_option linter.unusedVariables false
set_option linter.unusedSimpArgs false

/-! ### hallmarkref06_end: function 37 -/
def hallmarkref06_end.f (k : Nat) (a0_0 : Int) (a0_1 : Int) (a0_2 : Int) (a0_3 : Int) (l0_4 : List Int) (l0_5 : List Int) : Option (ByteArray) := (hallmarkref06_num.f k a0_2).bind fun t204 => (if t204.size + 1 ≤ 9223372036854775807 then ((hallmarkref06_list.f k l0_4 1).bind fun t205 => (if (t204 ++ (⟨#[40]⟩ : ByteArray)).size + t205.size ≤ 9223372036854775807 then (if ((t204 ++ (⟨#[40]⟩ : ByteArray)) ++ t205).size + 1 ≤ 9223372036854775807 then ((hallmarkref06_num.f k a0_3).bind fun t206 => (if t206.size + 1 ≤ 9223372036854775807 then ((hallmarkref06_list.f k l0_5 1).bind fun t207 => (if (t206 ++ (⟨#[40]⟩ : ByteArray)).size + t207.size ≤ 9223372036854775807 then (if ((t206 ++ (⟨#[40]⟩ : ByteArray)) ++ t207).size + 1 ≤ 9223372036854775807 then (if a0_0 = 0 then (if 5 + (((t204 ++ (⟨#[40]⟩ : ByteArray)) ++ t205) ++ (⟨#[41]⟩ : ByteArray)).size ≤ 9223372036854775807 then (some ((⟨#[106, 117, 109, 112, 32]⟩ : ByteArray) ++ (((t204 ++ (⟨#[40]⟩ : ByteArray)) ++ t205) ++ (⟨#[41]⟩ : ByteArray)))) else (none)) else (if a0_0 = 1 then ((hallmarkref06_num.f k a0_1).bind fun t208 => (if 8 + t208.size ≤ 9223372036854775807 then (if ((⟨#[98, 114, 97, 110, 99, 104, 32, 118]⟩ : ByteArray) ++ t208).size + 1 ≤ 9223372036854775807 then (if (((⟨#[98, 114, 97, 110, 99, 104, 32, 118]⟩ : ByteArray) ++ t208) ++ (⟨#[32]⟩ : ByteArray)).size + (((t204 ++ (⟨#[40]⟩ : ByteArray)) ++ t205) ++ (⟨#[41]⟩ : ByteArray)).size ≤ 9223372036854775807 then (if ((((⟨#[98, 114, 97, 110, 99, 104, 32, 118]⟩ : ByteArray) ++ t208) ++ (⟨#[32]⟩ : ByteArray)) ++ (((t204 ++ (⟨#[40]⟩ : ByteArray)) ++ t205) ++ (⟨#[41]⟩ : ByteArray))).size + 1 ≤ 9223372036854775807 then (if (((((⟨#[98, 114, 97, 110, 99, 104, 32, 118]⟩ : ByteArray) ++ t208) ++ (⟨#[32]⟩ : ByteArray)) ++ (((t204 ++ (⟨#[40]⟩ : ByteArray)) ++ t205) ++ (⟨#[41]⟩ : ByteArray))) ++ (⟨#[32]⟩ : ByteArray)).size + (((t206 ++ (⟨#[40]⟩ : ByteArray)) ++ t207) ++ (⟨#[41]⟩ : ByteArray)).size ≤ 9223372036854775807 then (some ((((((⟨#[98, 114, 97, 110, 99, 104, 32, 118]⟩ : ByteArray) ++ t208) ++ (⟨#[32]⟩ : ByteArray)) ++ (((t204 ++ (⟨#[40]⟩ : ByteArray)) ++ t205) ++ (⟨#[41]⟩ : ByteArray))) ++ (⟨#[32]⟩ : ByteArray)) ++ (((t206 ++ (⟨#[40]⟩ : ByteArray)) ++ t207) ++ (⟨#[41]⟩ : ByteArray)))) else (none)) else (none)) else (none)) else (none)) else (none))) else (if a0_0 = 2 then ((hallmarkref06_num.f k a0_1).bind fun t209 => (if 5 + t209.size ≤ 9223372036854775807 then (some ((⟨#[114, 101, 116, 32, 118]⟩ : ByteArray) ++ t209)) else (none))) else (if a0_0 = 3 then ((hallmarkref06_num.f k a0_1).bind fun t210 => (if 6 + t210.size ≤ 9223372036854775807 then (some ((⟨#[115, 116, 111, 112, 32, 118]⟩ : ByteArray) ++ t210)) else (none))) else (some (⟨#[63]⟩ : ByteArray)))))) else (none)) else (none))) else (none))) else (none)) else (none))) else (none))
theorem hallmarkref06_end.mono : ∀ a0 a1 a2 a3 a4 a5 k, LeO (hallmarkref06_end.f k a0 a1 a2 a3 a4 a5) (hallmarkref06_end.f (k + 1) a0 a1 a2 a3 a4 a5) := by
 intro a0 a1 a2 a3 a4 a5 k
 unfold hallmarkref06_end.f
 repeat' first
   | (with_reducible exact hallmarkref06_list.mono _ _ _)
   | (with_reducible exact hallmarkref06_num.mono _ _)
   | (with_reducible exact LeO.refl _)
   | (with_reducible exact LeO.none _)
   | (with_reducible refine LeO.ite ?_ ?_)
   | (with_reducible refine LeO.bind ?_ (fun _ => ?_))
   | exact hallmarkref06_list.mono _ _ _
   | exact hallmarkref06_num.mono _ _
   | exact LeO.none _
   | refine LeO.ite ?_ ?_
   | refine LeO.bind ?_ (fun _ => ?_)
def hallmarkref06_end.T1 : Bool × List (List Nat × List Nat) := (true, [([], []), ([0], [0]), ([1], [1]), ([2], [2]), ([], []), ([4], [4]), ([5, 2], [5]), ([3, 6], [3, 6]), ([7], [7]), ([], []), ([9], [9]), ([10, 6], [10]), ([11], [11]), ([], []), ([13], [13]), ([14, 11], [14]), ([12, 15], [12, 15]), ([16], [16]), ([8, 15, 0, 1, 2, 3, 4, 5, 6, 7, 8], [8]), ([17, 18, 0, 1, 2, 3, 4, 5, 6, 7, 8, 9, 10, 11, 12, 13, 14, 15, 16, 17, 18], [17])])
def hallmarkref06_end.B1 : List Nat := [0, 1, 3, 7, 0, 16, 55, 127, 255, 0, 512, 1655, 3703, 0, 8192, 28279, 65143, 130679, 61439, 524287]
theorem hallmarkref06_end.tab1 : rtab .any (opsOf Tryd.f37 1) = hallmarkref06_end.T1 := by kernel_rfl
theorem hallmarkref06_end.bits1 : waitsOk hallmarkref06_end.T1.2 hallmarkref06_end.B1 = true := by kernel_rfl
set_option maxHeartbeats 8000000 in
set_option maxRecDepth 100000 in
theorem hallmarkref06_end.calls (k : Nat) (a0_0 : Int) (a0_1 : Int) (a0_2 : Int) (a0_3 : Int) (A0_4 : Option Addr) (c0_4 : Nat) (l0_4 : List Int) (A0_5 : Option Addr) (c0_5 : Nat) (l0_5 : List Int) (r : ByteArray) (w : World) (hr0_4 : Kd.C (Kd.int .i64) w A0_4 l0_4.length l0_4) (hc0_4 : l0_4.length ≤ c0_4) (hr0_5 : Kd.C (Kd.int .i64) w A0_5 l0_5.length l0_5) (hc0_5 : l0_5.length ≤ c0_5) (h : hallmarkref06_end.f k a0_0 a0_1 a0_2 a0_3 l0_4 l0_5 = some r) :
  Calls Tryd.prog 37 #[.agg #[.int .i64 a0_0, .int .i64 a0_1, .int .i64 a0_2, .int .i64 a0_3, .slice A0_4 l0_4.length c0_4, .slice A0_5 l0_5.length c0_5]] w fun e w' => e = .returned (.string r) ∧ Below w.heap.size w w' := by
 have hu57 := Tryd.underlying57
 have HR0_4 := zm hr0_4
 have HC0_4 := zm hc0_4
 clear hr0_4 hc0_4
 have HR0_5 := zm hr0_5
 have HC0_5 := zm hc0_5
 clear hr0_5 hc0_5
 have HB := zm (Below.refl w.heap.size w)
 have H : ((hallmarkref06_num.f k a0_2).bind fun t204 => (if t204.size + 1 ≤ 9223372036854775807 then ((hallmarkref06_list.f k l0_4 1).bind fun t205 => (if (t204 ++ (⟨#[40]⟩ : ByteArray)).size + t205.size ≤ 9223372036854775807 then (if ((t204 ++ (⟨#[40]⟩ : ByteArray)) ++ t205).size + 1 ≤ 9223372036854775807 then ((hallmarkref06_num.f k a0_3).bind fun t206 => (if t206.size + 1 ≤ 9223372036854775807 then ((hallmarkref06_list.f k l0_5 1).bind fun t207 => (if (t206 ++ (⟨#[40]⟩ : ByteArray)).size + t207.size ≤ 9223372036854775807 then (if ((t206 ++ (⟨#[40]⟩ : ByteArray)) ++ t207).size + 1 ≤ 9223372036854775807 then (if a0_0 = 0 then (if 5 + (((t204 ++ (⟨#[40]⟩ : ByteArray)) ++ t205) ++ (⟨#[41]⟩ : ByteArray)).size ≤ 9223372036854775807 then (some ((⟨#[106, 117, 109, 112, 32]⟩ : ByteArray) ++ (((t204 ++ (⟨#[40]⟩ : ByteArray)) ++ t205) ++ (⟨#[41]⟩ : ByteArray)))) else (none)) else (if a0_0 = 1 then ((hallmarkref06_num.f k a0_1).bind fun t208 => (if 8 + t208.size ≤ 9223372036854775807 then (if ((⟨#[98, 114, 97, 110, 99, 104, 32, 118]⟩ : ByteArray) ++ t208).size + 1 ≤ 9223372036854775807 then (if (((⟨#[98, 114, 97, 110, 99, 104, 32, 118]⟩ : ByteArray) ++ t208) ++ (⟨#[32]⟩ : ByteArray)).size + (((t204 ++ (⟨#[40]⟩ : ByteArray)) ++ t205) ++ (⟨#[41]⟩ : ByteArray)).size ≤ 9223372036854775807 then (if ((((⟨#[98, 114, 97, 110, 99, 104, 32, 118]⟩ : ByteArray) ++ t208) ++ (⟨#[32]⟩ : ByteArray)) ++ (((t204 ++ (⟨#[40]⟩ : ByteArray)) ++ t205) ++ (⟨#[41]⟩ : ByteArray))).size + 1 ≤ 9223372036854775807 then (if (((((⟨#[98, 114, 97, 110, 99, 104, 32, 118]⟩ : ByteArray) ++ t208) ++ (⟨#[32]⟩ : ByteArray)) ++ (((t204 ++ (⟨#[40]⟩ : ByteArray)) ++ t205) ++ (⟨#[41]⟩ : ByteArray))) ++ (⟨#[32]⟩ : ByteArray)).size + (((t206 ++ (⟨#[40]⟩ : ByteArray)) ++ t207) ++ (⟨#[41]⟩ : ByteArray)).size ≤ 9223372036854775807 then (some ((((((⟨#[98, 114, 97, 110, 99, 104, 32, 118]⟩ : ByteArray) ++ t208) ++ (⟨#[32]⟩ : ByteArray)) ++ (((t204 ++ (⟨#[40]⟩ : ByteArray)) ++ t205) ++ (⟨#[41]⟩ : ByteArray))) ++ (⟨#[32]⟩ : ByteArray)) ++ (((t206 ++ (⟨#[40]⟩ : ByteArray)) ++ t207) ++ (⟨#[41]⟩ : ByteArray)))) else (none)) else (none)) else (none)) else (none)) else (none))) else (if a0_0 = 2 then ((hallmarkref06_num.f k a0_1).bind fun t209 => (if 5 + t209.size ≤ 9223372036854775807 then (some ((⟨#[114, 101, 116, 32, 118]⟩ : ByteArray) ++ t209)) else (none))) else (if a0_0 = 3 then ((hallmarkref06_num.f k a0_1).bind fun t210 => (if 6 + t210.size ≤ 9223372036854775807 then (some ((⟨#[115, 116, 111, 112, 32, 118]⟩ : ByteArray) ++ t210)) else (none))) else (some (⟨#[63]⟩ : ByteArray)))))) else (none)) else (none))) else (none))) else (none)) else (none))) else (none))) = some r := h
 clear h
 replace H := Option.bind_eq_some_iff.mp H
 obtain ⟨t204, A20, H⟩ := H
 replace H : (if t204.size + 1 ≤ 9223372036854775807 then ((hallmarkref06_list.f k l0_4 1).bind fun t205 => (if (t204 ++ (⟨#[40]⟩ : ByteArray)).size + t205.size ≤ 9223372036854775807 then (if ((t204 ++ (⟨#[40]⟩ : ByteArray)) ++ t205).size + 1 ≤ 9223372036854775807 then ((hallmarkref06_num.f k a0_3).bind fun t206 => (if t206.size + 1 ≤ 9223372036854775807 then ((hallmarkref06_list.f k l0_5 1).bind fun t207 => (if (t206 ++ (⟨#[40]⟩ : ByteArray)).size + t207.size ≤ 9223372036854775807 then (if ((t206 ++ (⟨#[40]⟩ : ByteArray)) ++ t207).size + 1 ≤ 9223372036854775807 then (if a0_0 = 0 then (if 5 + (((t204 ++ (⟨#[40]⟩ : ByteArray)) ++ t205) ++ (⟨#[41]⟩ : ByteArray)).size ≤ 9223372036854775807 then (some ((⟨#[106, 117, 109, 112, 32]⟩ : ByteArray) ++ (((t204 ++ (⟨#[40]⟩ : ByteArray)) ++ t205) ++ (⟨#[41]⟩ : ByteArray)))) else (none)) else (if a0_0 = 1 then ((hallmarkref06_num.f k a0_1).bind fun t208 => (if 8 + t208.size ≤ 9223372036854775807 then (if ((⟨#[98, 114, 97, 110, 99, 104, 32, 118]⟩ : ByteArray) ++ t208).size + 1 ≤ 9223372036854775807 then (if (((⟨#[98, 114, 97, 110, 99, 104, 32, 118]⟩ : ByteArray) ++ t208) ++ (⟨#[32]⟩ : ByteArray)).size + (((t204 ++ (⟨#[40]⟩ : ByteArray)) ++ t205) ++ (⟨#[41]⟩ : ByteArray)).size ≤ 9223372036854775807 then (if ((((⟨#[98, 114, 97, 110, 99, 104, 32, 118]⟩ : ByteArray) ++ t208) ++ (⟨#[32]⟩ : ByteArray)) ++ (((t204 ++ (⟨#[40]⟩ : ByteArray)) ++ t205) ++ (⟨#[41]⟩ : ByteArray))).size + 1 ≤ 9223372036854775807 then (if (((((⟨#[98, 114, 97, 110, 99, 104, 32, 118]⟩ : ByteArray) ++ t208) ++ (⟨#[32]⟩ : ByteArray)) ++ (((t204 ++ (⟨#[40]⟩ : ByteArray)) ++ t205) ++ (⟨#[41]⟩ : ByteArray))) ++ (⟨#[32]⟩ : ByteArray)).size + (((t206 ++ (⟨#[40]⟩ : ByteArray)) ++ t207) ++ (⟨#[41]⟩ : ByteArray)).size ≤ 9223372036854775807 then (some ((((((⟨#[98, 114, 97, 110, 99, 104, 32, 118]⟩ : ByteArray) ++ t208) ++ (⟨#[32]⟩ : ByteArray)) ++ (((t204 ++ (⟨#[40]⟩ : ByteArray)) ++ t205) ++ (⟨#[41]⟩ : ByteArray))) ++ (⟨#[32]⟩ : ByteArray)) ++ (((t206 ++ (⟨#[40]⟩ : ByteArray)) ++ t207) ++ (⟨#[41]⟩ : ByteArray)))) else (none)) else (none)) else (none)) else (none)) else (none))) else (if a0_0 = 2 then ((hallmarkref06_num.f k a0_1).bind fun t209 => (if 5 + t209.size ≤ 9223372036854775807 then (some ((⟨#[114, 101, 116, 32, 118]⟩ : ByteArray) ++ t209)) else (none))) else (if a0_0 = 3 then ((hallmarkref06_num.f k a0_1).bind fun t210 => (if 6 + t210.size ≤ 9223372036854775807 then (some ((⟨#[115, 116, 111, 112, 32, 118]⟩ : ByteArray) ++ t210)) else (none))) else (some (⟨#[63]⟩ : ByteArray)))))) else (none)) else (none))) else (none))) else (none)) else (none))) else (none)) = some r := H
 have A2 := zm A20
 clear A20
 by_cases c3 : t204.size + 1 ≤ 9223372036854775807
 ·rw [if_pos c3] at H
  have c3b0 := eq_true c3
  have c3b1 : decide (t204.size + 1 ≤ 9223372036854775807) = true := decide_eq_true c3
  try have c3b2 : (9223372036854775807 < t204.size + 1) = False := eq_false (Nat.not_lt.2 c3)
  replace H := Option.bind_eq_some_iff.mp H
  obtain ⟨t205, A40, H⟩ := H
  replace H : (if (t204 ++ (⟨#[40]⟩ : ByteArray)).size + t205.size ≤ 9223372036854775807 then (if ((t204 ++ (⟨#[40]⟩ : ByteArray)) ++ t205).size + 1 ≤ 9223372036854775807 then ((hallmarkref06_num.f k a0_3).bind fun t206 => (if t206.size + 1 ≤ 9223372036854775807 then ((hallmarkref06_list.f k l0_5 1).bind fun t207 => (if (t206 ++ (⟨#[40]⟩ : ByteArray)).size + t207.size ≤ 9223372036854775807 then (if ((t206 ++ (⟨#[40]⟩ : ByteArray)) ++ t207).size + 1 ≤ 9223372036854775807 then (if a0_0 = 0 then (if 5 + (((t204 ++ (⟨#[40]⟩ : ByteArray)) ++ t205) ++ (⟨#[41]⟩ : ByteArray)).size ≤ 9223372036854775807 then (some ((⟨#[106, 117, 109, 112, 32]⟩ : ByteArray) ++ (((t204 ++ (⟨#[40]⟩ : ByteArray)) ++ t205) ++ (⟨#[41]⟩ : ByteArray)))) else (none)) else (if a0_0 = 1 then ((hallmarkref06_num.f k a0_1).bind fun t208 => (if 8 + t208.size ≤ 9223372036854775807 then (if ((⟨#[98, 114, 97, 110, 99, 104, 32, 118]⟩ : ByteArray) ++ t208).size + 1 ≤ 9223372036854775807 then (if (((⟨#[98, 114, 97, 110, 99, 104, 32, 118]⟩ : ByteArray) ++ t208) ++ (⟨#[32]⟩ : ByteArray)).size + (((t204 ++ (⟨#[40]⟩ : ByteArray)) ++ t205) ++ (⟨#[41]⟩ : ByteArray)).size ≤ 9223372036854775807 then (if ((((⟨#[98, 114, 97, 110, 99, 104, 32, 118]⟩ : ByteArray) ++ t208) ++ (⟨#[32]⟩ : ByteArray)) ++ (((t204 ++ (⟨#[40]⟩ : ByteArray)) ++ t205) ++ (⟨#[41]⟩ : ByteArray))).size + 1 ≤ 9223372036854775807 then (if (((((⟨#[98, 114, 97, 110, 99, 104, 32, 118]⟩ : ByteArray) ++ t208) ++ (⟨#[32]⟩ : ByteArray)) ++ (((t204 ++ (⟨#[40]⟩ : ByteArray)) ++ t205) ++ (⟨#[41]⟩ : ByteArray))) ++ (⟨#[32]⟩ : ByteArray)).size + (((t206 ++ (⟨#[40]⟩ : ByteArray)) ++ t207) ++ (⟨#[41]⟩ : ByteArray)).size ≤ 9223372036854775807 then (some ((((((⟨#[98, 114, 97, 110, 99, 104, 32, 118]⟩ : ByteArray) ++ t208) ++ (⟨#[32]⟩ : ByteArray)) ++ (((t204 ++ (⟨#[40]⟩ : ByteArray)) ++ t205) ++ (⟨#[41]⟩ : ByteArray))) ++ (⟨#[32]⟩ : ByteArray)) ++ (((t206 ++ (⟨#[40]⟩ : ByteArray)) ++ t207) ++ (⟨#[41]⟩ : ByteArray)))) else (none)) else (none)) else (none)) else (none)) else (none))) else (if a0_0 = 2 then ((hallmarkref06_num.f k a0_1).bind fun t209 => (if 5 + t209.size ≤ 9223372036854775807 then (some ((⟨#[114, 101, 116, 32, 118]⟩ : ByteArray) ++ t209)) else (none))) else (if a0_0 = 3 then ((hallmarkref06_num.f k a0_1).bind fun t210 => (if 6 + t210.size ≤ 9223372036854775807 then (some ((⟨#[115, 116, 111, 112, 32, 118]⟩ : ByteArray) ++ t210)) else (none))) else (some (⟨#[63]⟩ : ByteArray)))))) else (none)) else (none))) else (none))) else (none)) else (none)) = some r := H
  have A4 := zm A40
  clear A40
  by_cases c5 : (t204 ++ (⟨#[40]⟩ : ByteArray)).size + t205.size ≤ 9223372036854775807
  ·rw [if_pos c5] at H
   have c5b0 := eq_true c5
   have c5b1 : decide ((t204 ++ (⟨#[40]⟩ : ByteArray)).size + t205.size ≤ 9223372036854775807) = true := decide_eq_true c5
   have c5n := c5
   simp only [ByteArray.size_append, show (⟨#[40]⟩ : ByteArray).size = 1 from rfl] at c5n
   have c5n0 := eq_true c5n
   have c5n1 := decide_eq_true c5n
   have c5n2 := eq_false (Nat.not_lt.2 c5n)
   clear c5n
   try have c5b2 : (9223372036854775807 < (t204 ++ (⟨#[40]⟩ : ByteArray)).size + t205.size) = False := eq_false (Nat.not_lt.2 c5)
   by_cases c6 : ((t204 ++ (⟨#[40]⟩ : ByteArray)) ++ t205).size + 1 ≤ 9223372036854775807
   ·rw [if_pos c6] at H
    have c6b0 := eq_true c6
    have c6b1 : decide (((t204 ++ (⟨#[40]⟩ : ByteArray)) ++ t205).size + 1 ≤ 9223372036854775807) = true := decide_eq_true c6
    have c6n := c6
    simp only [ByteArray.size_append, show (⟨#[40]⟩ : ByteArray).size = 1 from rfl] at c6n
    have c6n0 := eq_true c6n
    have c6n1 := decide_eq_true c6n
    have c6n2 := eq_false (Nat.not_lt.2 c6n)
    clear c6n
    try have c6b2 : (9223372036854775807 < ((t204 ++ (⟨#[40]⟩ : ByteArray)) ++ t205).size + 1) = False := eq_false (Nat.not_lt.2 c6)
    replace H := Option.bind_eq_some_iff.mp H
    obtain ⟨t206, A70, H⟩ := H
    replace H : (if t206.size + 1 ≤ 9223372036854775807 then ((hallmarkref06_list.f k l0_5 1).bind fun t207 => (if (t206 ++ (⟨#[40]⟩ : ByteArray)).size + t207.size ≤ 9223372036854775807 then (if ((t206 ++ (⟨#[40]⟩ : ByteArray)) ++ t207).size + 1 ≤ 9223372036854775807 then (if a0_0 = 0 then (if 5 + (((t204 ++ (⟨#[40]⟩ : ByteArray)) ++ t205) ++ (⟨#[41]⟩ : ByteArray)).size ≤ 9223372036854775807 then (some ((⟨#[106, 117, 109, 112, 32]⟩ : ByteArray) ++ (((t204 ++ (⟨#[40]⟩ : ByteArray)) ++ t205) ++ (⟨#[41]⟩ : ByteArray)))) else (none)) else (if a0_0 = 1 then ((hallmarkref06_num.f k a0_1).bind fun t208 => (if 8 + t208.size ≤ 9223372036854775807 then (if ((⟨#[98, 114, 97, 110, 99, 104, 32, 118]⟩ : ByteArray) ++ t208).size + 1 ≤ 9223372036854775807 then (if (((⟨#[98, 114, 97, 110, 99, 104, 32, 118]⟩ : ByteArray) ++ t208) ++ (⟨#[32]⟩ : ByteArray)).size + (((t204 ++ (⟨#[40]⟩ : ByteArray)) ++ t205) ++ (⟨#[41]⟩ : ByteArray)).size ≤ 9223372036854775807 then (if ((((⟨#[98, 114, 97, 110, 99, 104, 32, 118]⟩ : ByteArray) ++ t208) ++ (⟨#[32]⟩ : ByteArray)) ++ (((t204 ++ (⟨#[40]⟩ : ByteArray)) ++ t205) ++ (⟨#[41]⟩ : ByteArray))).size + 1 ≤ 9223372036854775807 then (if (((((⟨#[98, 114, 97, 110, 99, 104, 32, 118]⟩ : ByteArray) ++ t208) ++ (⟨#[32]⟩ : ByteArray)) ++ (((t204 ++ (⟨#[40]⟩ : ByteArray)) ++ t205) ++ (⟨#[41]⟩ : ByteArray))) ++ (⟨#[32]⟩ : ByteArray)).size + (((t206 ++ (⟨#[40]⟩ : ByteArray)) ++ t207) ++ (⟨#[41]⟩ : ByteArray)).size ≤ 9223372036854775807 then (some ((((((⟨#[98, 114, 97, 110, 99, 104, 32, 118]⟩ : ByteArray) ++ t208) ++ (⟨#[32]⟩ : ByteArray)) ++ (((t204 ++ (⟨#[40]⟩ : ByteArray)) ++ t205) ++ (⟨#[41]⟩ : ByteArray))) ++ (⟨#[32]⟩ : ByteArray)) ++ (((t206 ++ (⟨#[40]⟩ : ByteArray)) ++ t207) ++ (⟨#[41]⟩ : ByteArray)))) else (none)) else (none)) else (none)) else (none)) else (none))) else (if a0_0 = 2 then ((hallmarkref06_num.f k a0_1).bind fun t209 => (if 5 + t209.size ≤ 9223372036854775807 then (some ((⟨#[114, 101, 116, 32, 118]⟩ : ByteArray) ++ t209)) else (none))) else (if a0_0 = 3 then ((hallmarkref06_num.f k a0_1).bind fun t210 => (if 6 + t210.size ≤ 9223372036854775807 then (some ((⟨#[115, 116, 111, 112, 32, 118]⟩ : ByteArray) ++ t210)) else (none))) else (some (⟨#[63]⟩ : ByteArray)))))) else (none)) else (none))) else (none)) = some r := H
    have A7 := zm A70
    clear A70
    by_cases c8 : t206.size + 1 ≤ 9223372036854775807
    ·rw [if_pos c8] at H
     have c8b0 := eq_true c8
     have c8b1 : decide (t206.size + 1 ≤ 9223372036854775807) = true := decide_eq_true c8
     try have c8b2 : (9223372036854775807 < t206.size + 1) = False := eq_false (Nat.not_lt.2 c8)
     replace H := Option.bind_eq_some_iff.mp H
     obtain ⟨t207, A90, H⟩ := H
     replace H : (if (t206 ++ (⟨#[40]⟩ : ByteArray)).size + t207.size ≤ 9223372036854775807 then (if ((t206 ++ (⟨#[40]⟩ : ByteArray)) ++ t207).size + 1 ≤ 9223372036854775807 then (if a0_0 = 0 then (if 5 + (((t204 ++ (⟨#[40]⟩ : ByteArray)) ++ t205) ++ (⟨#[41]⟩ : ByteArray)).size ≤ 9223372036854775807 then (some ((⟨#[106, 117, 109, 112, 32]⟩ : ByteArray) ++ (((t204 ++ (⟨#[40]⟩ : ByteArray)) ++ t205) ++ (⟨#[41]⟩ : ByteArray)))) else (none)) else (if a0_0 = 1 then ((hallmarkref06_num.f k a0_1).bind fun t208 => (if 8 + t208.size ≤ 9223372036854775807 then (if ((⟨#[98, 114, 97, 110, 99, 104, 32, 118]⟩ : ByteArray) ++ t208).size + 1 ≤ 9223372036854775807 then (if (((⟨#[98, 114, 97, 110, 99, 104, 32, 118]⟩ : ByteArray) ++ t208) ++ (⟨#[32]⟩ : ByteArray)).size + (((t204 ++ (⟨#[40]⟩ : ByteArray)) ++ t205) ++ (⟨#[41]⟩ : ByteArray)).size ≤ 9223372036854775807 then (if ((((⟨#[98, 114, 97, 110, 99, 104, 32, 118]⟩ : ByteArray) ++ t208) ++ (⟨#[32]⟩ : ByteArray)) ++ (((t204 ++ (⟨#[40]⟩ : ByteArray)) ++ t205) ++ (⟨#[41]⟩ : ByteArray))).size + 1 ≤ 9223372036854775807 then (if (((((⟨#[98, 114, 97, 110, 99, 104, 32, 118]⟩ : ByteArray) ++ t208) ++ (⟨#[32]⟩ : ByteArray)) ++ (((t204 ++ (⟨#[40]⟩ : ByteArray)) ++ t205) ++ (⟨#[41]⟩ : ByteArray))) ++ (⟨#[32]⟩ : ByteArray)).size + (((t206 ++ (⟨#[40]⟩ : ByteArray)) ++ t207) ++ (⟨#[41]⟩ : ByteArray)).size ≤ 9223372036854775807 then (some ((((((⟨#[98, 114, 97, 110, 99, 104, 32, 118]⟩ : ByteArray) ++ t208) ++ (⟨#[32]⟩ : ByteArray)) ++ (((t204 ++ (⟨#[40]⟩ : ByteArray)) ++ t205) ++ (⟨#[41]⟩ : ByteArray))) ++ (⟨#[32]⟩ : ByteArray)) ++ (((t206 ++ (⟨#[40]⟩ : ByteArray)) ++ t207) ++ (⟨#[41]⟩ : ByteArray)))) else (none)) else (none)) else (none)) else (none)) else (none))) else (if a0_0 = 2 then ((hallmarkref06_num.f k a0_1).bind fun t209 => (if 5 + t209.size ≤ 9223372036854775807 then (some ((⟨#[114, 101, 116, 32, 118]⟩ : ByteArray) ++ t209)) else (none))) else (if a0_0 = 3 then ((hallmarkref06_num.f k a0_1).bind fun t210 => (if 6 + t210.size ≤ 9223372036854775807 then (some ((⟨#[115, 116, 111, 112, 32, 118]⟩ : ByteArray) ++ t210)) else (none))) else (some (⟨#[63]⟩ : ByteArray)))))) else (none)) else (none)) = some r := H
     have A9 := zm A90
     clear A90
     by_cases c10 : (t206 ++ (⟨#[40]⟩ : ByteArray)).size + t207.size ≤ 9223372036854775807
     ·rw [if_pos c10] at H
      have c10b0 := eq_true c10
      have c10b1 : decide ((t206 ++ (⟨#[40]⟩ : ByteArray)).size + t207.size ≤ 9223372036854775807) = true := decide_eq_true c10
      have c10n := c10
      simp only [ByteArray.size_append, show (⟨#[40]⟩ : ByteArray).size = 1 from rfl] at c10n
      have c10n0 := eq_true c10n
      have c10n1 := decide_eq_true c10n
      have c10n2 := eq_false (Nat.not_lt.2 c10n)
      clear c10n
      try have c10b2 : (9223372036854775807 < (t206 ++ (⟨#[40]⟩ : ByteArray)).size + t207.size) = False := eq_false (Nat.not_lt.2 c10)
      by_cases c11 : ((t206 ++ (⟨#[40]⟩ : ByteArray)) ++ t207).size + 1 ≤ 9223372036854775807
      ·rw [if_pos c11] at H
       have c11b0 := eq_true c11
       have c11b1 : decide (((t206 ++ (⟨#[40]⟩ : ByteArray)) ++ t207).size + 1 ≤ 9223372036854775807) = true := decide_eq_true c11
       have c11n := c11
       simp only [ByteArray.size_append, show (⟨#[40]⟩ : ByteArray).size = 1 from rfl] at c11n
       have c11n0 := eq_true c11n
       have c11n1 := decide_eq_true c11n
       have c11n2 := eq_false (Nat.not_lt.2 c11n)
       clear c11n
       try have c11b2 : (9223372036854775807 < ((t206 ++ (⟨#[40]⟩ : ByteArray)) ++ t207).size + 1) = False := eq_false (Nat.not_lt.2 c11)
       by_cases c12 : a0_0 = 0
       ·rw [if_pos c12] at H
        have c12b0 : (a0_0 == 0) = true := beq_iff_eq.mpr c12
        have c12b1 : (a0_0 != 0) = false := bne_eq_false_iff_eq.mpr c12
        clear c12
        by_cases c13 : 5 + (((t204 ++ (⟨#[40]⟩ : ByteArray)) ++ t205) ++ (⟨#[41]⟩ : ByteArray)).size ≤ 9223372036854775807
        ·rw [if_pos c13] at H
         have c13b0 := eq_true c13
         have c13b1 : decide (5 + (((t204 ++ (⟨#[40]⟩ : ByteArray)) ++ t205) ++ (⟨#[41]⟩ : ByteArray)).size ≤ 9223372036854775807) = true := decide_eq_true c13
         have c13n := c13
         simp only [ByteArray.size_append, show (⟨#[40]⟩ : ByteArray).size = 1 from rfl, show (⟨#[41]⟩ : ByteArray).size = 1 from rfl] at c13n
         have c13n0 := eq_true c13n
         have c13n1 := decide_eq_true c13n
         have c13n2 := eq_false (Nat.not_lt.2 c13n)
         clear c13n
         try have c13b2 : (9223372036854775807 < 5 + (((t204 ++ (⟨#[40]⟩ : ByteArray)) ++ t205) ++ (⟨#[41]⟩ : ByteArray)).size) = False := eq_false (Nat.not_lt.2 c13)
         obtain rfl := Option.some.inj H
         go_enter Tryd.func37, Tryd.ntmps37
         try go_wp2_with (first | ((with_reducible refine gate_dst (N := 1) rfl ?_); refine box_event ?hg (N := 1) ?hd (cs := #[.int .i64 a0_0, .int .i64 a0_1, .int .i64 a0_2, .int .i64 a0_3, .slice A0_4 l0_4.length c0_4, .slice A0_5 l0_5.length c0_5]) (t := 57) ?hr ?_; (case hd => rfl); (case hg => rfl); (case hr => first | (go_simp; done) | (go_simp; rfl)); intro gb203 hg w14 hbox hb; have n0_ := zm (below_step (by repeat (first | (with_reducible first | exact HB.out | apply below_alloc | apply pw_below_drewN | apply below_drew1) | exact HB.out)) hb); have n1_ := zm (hbox); have n2_ := zm ((by rw [hg]; exact (below_size (by repeat (first | (with_reducible first | exact HB.out | apply below_alloc | apply pw_below_drewN | apply below_drew1) | exact HB.out))) : w.heap.size ≤ gb203)); have n3_ := zm ((by rw [hg]; exact (below_size (by repeat (first | (with_reducible first | exact HB.out | apply below_alloc | apply pw_below_drewN | apply below_drew1) | exact HB.out))) : w.heap.size ≤ gb203)); clear HB; have HB := n0_; have BK203 := n1_; have GW203 := n2_; have GE203 := n3_; clear n0_ n1_ n2_ n3_; clear hb hbox hg))
         replace BK203 := zm (blk_drew BK203.out)
         replace HB := zm (below_drew1 HB.out)
         refine start_ (n := 20) (S := fun w' => w'.cell? ⟨gb203, 0, none⟩ = some (.int .i64 a0_0) ∧ w'.cell? ⟨gb203, 1, none⟩ = some (.int .i64 a0_1) ∧ w'.cell? ⟨gb203, 2, none⟩ = some (.int .i64 a0_2) ∧ w'.cell? ⟨gb203, 3, none⟩ = some (.int .i64 a0_3) ∧ w'.cell? ⟨gb203, 4, none⟩ = some (.slice A0_4 l0_4.length c0_4) ∧ w'.cell? ⟨gb203, 5, none⟩ = some (.slice A0_5 l0_5.length c0_5)) (ds := []) #[Z,Z,Z,Z,Z,Z,Z,Z,Z,Z,Z,Z,Z,Z,Z,Z,Z,Z,Z,Z] (by kernel_rfl) rfl rfl ⟨(blk_cell BK203.out 0).trans rfl, (blk_cell BK203.out 1).trans rfl, (blk_cell BK203.out 2).trans rfl, (blk_cell BK203.out 3).trans rfl, (blk_cell BK203.out 4).trans rfl, (blk_cell BK203.out 5).trans rfl⟩ (fun hHeld => ?_); refine with_tabW hallmarkref06_end.tab1 hallmarkref06_end.bits1 (fun HT_ HW_ => ?_)
         generalize w14.drew = w15 at BK203 HB hHeld ⊢
         refine pure_ (i := 0) (N := some 5) (v := ?_) (a' := ?_) #[Y,Z,Z,Z,Z,Z,Z,Z,Z,Z,Z,Z,Z,Z,Z,Z,Z,Z,Z,Z] rfl rfl (any_of HT_.out (by kernel_rfl)) (fun _ _ _ h => h) (Or.inl ⟨by rfl, ?_⟩) ?_ ?_
         rotate_left
         ·intro w'
          go_simp
          with_reducible rfl
         rotate_left
         ·simp only [Act.put, zl1, zl2, zl3, i64_w, i32_w]
          rfl
         refine pure_ (i := 4) (N := some 9) (v := ?_) (a' := ?_) #[Y,Z,Z,Z,Y,Z,Z,Z,Z,Z,Z,Z,Z,Z,Z,Z,Z,Z,Z,Z] rfl rfl (any_of HT_.out (by kernel_rfl)) (fun _ _ _ h => h) (Or.inl ⟨by rfl, ?_⟩) ?_ ?_
         rotate_left
         ·intro w'
          go_simp
          with_reducible rfl
         rotate_left
         ·simp only [Act.put, zl1, zl2, zl3, i64_w, i32_w]
          rfl
         refine pure_ (i := 9) (N := some 14) (v := ?_) (a' := ?_) #[Y,Z,Z,Z,Y,Z,Z,Z,Z,Y,Z,Z,Z,Z,Z,Z,Z,Z,Z,Z] rfl rfl (any_of HT_.out (by kernel_rfl)) (fun _ _ _ h => h) (Or.inl ⟨by rfl, ?_⟩) ?_ ?_
         rotate_left
         ·intro w'
          go_simp
          with_reducible rfl
         rotate_left
         ·simp only [Act.put, zl1, zl2, zl3, i64_w, i32_w]
          rfl
         refine pure_ (i := 13) (N := some 18) (v := ?_) (a' := ?_) #[Y,Z,Z,Z,Y,Z,Z,Z,Z,Y,Z,Z,Z,Y,Z,Z,Z,Z,Z,Z] rfl rfl (any_of HT_.out (by kernel_rfl)) (fun _ _ _ h => h) (Or.inl ⟨by rfl, ?_⟩) ?_ ?_
         rotate_left
         ·intro w'
          go_simp
          with_reducible rfl
         rotate_left
         ·simp only [Act.put, zl1, zl2, zl3, i64_w, i32_w]
          rfl
         refine take_ (i := 1) (N := some 6) (v := ?_) (a' := ?_) #[Y,Y,Z,Z,Y,Z,Z,Z,Z,Y,Z,Z,Z,Y,Z,Z,Z,Z,Z,Z] rfl rfl (take_ofW HT_.out HW_.out (by kernel_rfl)) (fun _ _ _ h => h) (Or.inl ⟨by rfl, ?_⟩) hHeld ?_ ?_
         rotate_left
         ·rintro w' ⟨s0, s1, s2, s3, s4, s5⟩
          go_simp
          with_reducible rfl
         rotate_left
         ·simp only [Act.put, zl1, zl2, zl3, i64_w, i32_w]
          rfl
         refine take_ (i := 5) (N := some 10) (v := ?_) (a' := ?_) #[Y,Y,Z,Z,Y,Y,Z,Z,Z,Y,Z,Z,Z,Y,Z,Z,Z,Z,Z,Z] rfl rfl (take_ofW HT_.out HW_.out (by kernel_rfl)) (fun _ _ _ h => h) (Or.inl ⟨by rfl, ?_⟩) hHeld ?_ ?_
         rotate_left
         ·rintro w' ⟨s0, s1, s2, s3, s4, s5⟩
          go_simp
          with_reducible rfl
         rotate_left
         ·simp only [Act.put, zl1, zl2, zl3, i64_w, i32_w]
          rfl
         refine take_ (i := 10) (N := some 15) (v := ?_) (a' := ?_) #[Y,Y,Z,Z,Y,Y,Z,Z,Z,Y,Y,Z,Z,Y,Z,Z,Z,Z,Z,Z] rfl rfl (take_ofW HT_.out HW_.out (by kernel_rfl)) (fun _ _ _ h => h) (Or.inl ⟨by rfl, ?_⟩) hHeld ?_ ?_
         rotate_left
         ·rintro w' ⟨s0, s1, s2, s3, s4, s5⟩
          go_simp
          with_reducible rfl
         rotate_left
         ·simp only [Act.put, zl1, zl2, zl3, i64_w, i32_w]
          rfl
         refine take_ (i := 14) (N := some 19) (v := ?_) (a' := ?_) #[Y,Y,Z,Z,Y,Y,Z,Z,Z,Y,Y,Z,Z,Y,Y,Z,Z,Z,Z,Z] rfl rfl (take_ofW HT_.out HW_.out (by kernel_rfl)) (fun _ _ _ h => h) (Or.inl ⟨by rfl, ?_⟩) hHeld ?_ ?_
         rotate_left
         ·rintro w' ⟨s0, s1, s2, s3, s4, s5⟩
          go_simp
          with_reducible rfl
         rotate_left
         ·simp only [Act.put, zl1, zl2, zl3, i64_w, i32_w]
          rfl
         refine one_ (i := 2) (N := some 7) #[Y,Y,Y,Z,Y,Y,Z,Z,Z,Y,Y,Z,Z,Y,Y,Z,Z,Z,Z,Z] rfl rfl (one_of HT_.out (by kernel_rfl)) (by decide) (fun K hK => ?_)
         refine goes_ Tryd.func24 (by kernel_rfl) rfl #[.int .i64 a0_2] (by rfl) rfl rfl (by (try simp only [List.map_toArray, List.map_cons, List.map_nil]); first | done | rfl | (simp only [List.length_drop, List.length_take]; rfl)) ?_
         with_reducible refine (hallmarkref06_num.calls k a0_2 t204 _ A2.out).mono ?_
         rintro e w16 ⟨rfl, hb⟩
         refine ⟨_, rfl, ?_⟩
         replace BK203 := zm (blk_below (g := gb203) (o := .cells #[.int .i64 a0_0, .int .i64 a0_1, .int .i64 a0_2, .int .i64 a0_3, .slice A0_4 l0_4.length c0_4, .slice A0_5 l0_5.length c0_5] 57 (0, 0)) BK203.out hb)
         replace HB := zm (below_step (by repeat (first | (with_reducible first | exact HB.out | apply below_alloc | apply pw_below_drewN | apply below_drew1 | refine below_set ?_ GE203.out) | exact HB.out)) hb)
         (try clear hb)
         (try clear hb2)
         (try clear hk)
         (try clear hi)
         refine hK.out _ _ ⟨(blk_cell BK203.out 0).trans rfl, (blk_cell BK203.out 1).trans rfl, (blk_cell BK203.out 2).trans rfl, (blk_cell BK203.out 3).trans rfl, (blk_cell BK203.out 4).trans rfl, (blk_cell BK203.out 5).trans rfl⟩ (fun hHeld => ?_)
         clear hK K
         refine norm_ (a' := ?_) ?_ ?_
         rotate_left
         ·show Act.put _ (some 7) _ = _
          simp only [Act.put, zl1, zl2, zl3, i64_w, i32_w]
          rfl
         refine pure_ (i := 3) (N := some 8) (v := ?_) (a' := ?_) #[Y,Y,Y,Y,Y,Y,Z,Z,Z,Y,Y,Z,Z,Y,Y,Z,Z,Z,Z,Z] rfl rfl (any_of HT_.out (by kernel_rfl)) (fun _ _ _ h => h) (Or.inl ⟨by rfl, ?_⟩) ?_ ?_
         rotate_left
         ·intro w'
          go_simp
          with_reducible rfl
         rotate_left
         ·simp only [Act.put, zl1, zl2, zl3, i64_w, i32_w]
          rfl
         refine one_ (i := 6) (N := some 11) #[Y,Y,Y,Y,Y,Y,Y,Z,Z,Y,Y,Z,Z,Y,Y,Z,Z,Z,Z,Z] rfl rfl (one_of HT_.out (by kernel_rfl)) (by decide) (fun K hK => ?_)
         refine goes_ Tryd.func25 (by kernel_rfl) rfl #[.slice A0_4 l0_4.length c0_4, .int .i64 1] (by rfl) rfl rfl (by (try simp only [List.map_toArray, List.map_cons, List.map_nil]); first | done | rfl | (simp only [List.length_drop, List.length_take]; rfl)) ?_
         with_reducible refine (hallmarkref06_list.calls k _ _ l0_4 1 t205 _ ?side1 ?side2 A4.out).mono ?_
         (case side1 => repeat (first | exact (Kd.C_below HR0_4.out HB.out) | (with_reducible refine Kd.C_alloc ?_ _) | (with_reducible refine Kd.C_drewN ?_ _) | (with_reducible refine Kd.C_drew ?_)))
         (case side2 => exact HC0_4.out)
         rintro e w17 ⟨rfl, hb⟩
         refine ⟨_, rfl, ?_⟩
         replace BK203 := zm (blk_below (g := gb203) (o := .cells #[.int .i64 a0_0, .int .i64 a0_1, .int .i64 a0_2, .int .i64 a0_3, .slice A0_4 l0_4.length c0_4, .slice A0_5 l0_5.length c0_5] 57 (0, 0)) BK203.out hb)
         replace HB := zm (below_step (by repeat (first | (with_reducible first | exact HB.out | apply below_alloc | apply pw_below_drewN | apply below_drew1 | refine below_set ?_ GE203.out) | exact HB.out)) hb)
         (try clear hb)
         (try clear hb2)
         (try clear hk)
         (try clear hi)
         refine hK.out _ _ ⟨(blk_cell BK203.out 0).trans rfl, (blk_cell BK203.out 1).trans rfl, (blk_cell BK203.out 2).trans rfl, (blk_cell BK203.out 3).trans rfl, (blk_cell BK203.out 4).trans rfl, (blk_cell BK203.out 5).trans rfl⟩ (fun hHeld => ?_)
         clear hK K
         refine norm_ (a' := ?_) ?_ ?_
         rotate_left
         ·show Act.put _ (some 11) _ = _
          simp only [Act.put, zl1, zl2, zl3, i64_w, i32_w]
          rfl
         refine pure_ (i := 7) (N := some 12) (v := ?_) (a' := ?_) #[Y,Y,Y,Y,Y,Y,Y,Y,Z,Y,Y,Z,Z,Y,Y,Z,Z,Z,Z,Z] rfl rfl (any_of HT_.out (by kernel_rfl)) (fun _ _ _ h => h) (Or.inl ⟨by rfl, ?_⟩) ?_ ?_
         rotate_left
         ·intro w'
          go_simp
          with_reducible rfl
         rotate_left
         ·simp only [Act.put, zl1, zl2, zl3, i64_w, i32_w]
          rfl
         refine pure_ (i := 8) (N := some 13) (v := ?_) (a' := ?_) #[Y,Y,Y,Y,Y,Y,Y,Y,Y,Y,Y,Z,Z,Y,Y,Z,Z,Z,Z,Z] rfl rfl (any_of HT_.out (by kernel_rfl)) (fun _ _ _ h => h) (Or.inl ⟨by rfl, ?_⟩) ?_ ?_
         rotate_left
         ·intro w'
          go_simp
          with_reducible rfl
         rotate_left
         ·simp only [Act.put, zl1, zl2, zl3, i64_w, i32_w]
          rfl
         refine one_ (i := 11) (N := some 16) #[Y,Y,Y,Y,Y,Y,Y,Y,Y,Y,Y,Y,Z,Y,Y,Z,Z,Z,Z,Z] rfl rfl (one_of HT_.out (by kernel_rfl)) (by decide) (fun K hK => ?_)
         refine goes_ Tryd.func24 (by kernel_rfl) rfl #[.int .i64 a0_3] (by rfl) rfl rfl (by (try simp only [List.map_toArray, List.map_cons, List.map_nil]); first | done | rfl | (simp only [List.length_drop, List.length_take]; rfl)) ?_
         with_reducible refine (hallmarkref06_num.calls k a0_3 t206 _ A7.out).mono ?_
         rintro e w18 ⟨rfl, hb⟩
         refine ⟨_, rfl, ?_⟩
         replace BK203 := zm (blk_below (g := gb203) (o := .cells #[.int .i64 a0_0, .int .i64 a0_1, .int .i64 a0_2, .int .i64 a0_3, .slice A0_4 l0_4.length c0_4, .slice A0_5 l0_5.length c0_5] 57 (0, 0)) BK203.out hb)
         replace HB := zm (below_step (by repeat (first | (with_reducible first | exact HB.out | apply below_alloc | apply pw_below_drewN | apply below_drew1 | refine below_set ?_ GE203.out) | exact HB.out)) hb)
         (try clear hb)
         (try clear hb2)
         (try clear hk)
         (try clear hi)
         refine hK.out _ _ ⟨(blk_cell BK203.out 0).trans rfl, (blk_cell BK203.out 1).trans rfl, (blk_cell BK203.out 2).trans rfl, (blk_cell BK203.out 3).trans rfl, (blk_cell BK203.out 4).trans rfl, (blk_cell BK203.out 5).trans rfl⟩ (fun hHeld => ?_)
         clear hK K
         refine norm_ (a' := ?_) ?_ ?_
         rotate_left
         ·show Act.put _ (some 16) _ = _
          simp only [Act.put, zl1, zl2, zl3, i64_w, i32_w]
          rfl
         refine pure_ (i := 12) (N := some 17) (v := ?_) (a' := ?_) #[Y,Y,Y,Y,Y,Y,Y,Y,Y,Y,Y,Y,Y,Y,Y,Z,Z,Z,Z,Z] rfl rfl (any_of HT_.out (by kernel_rfl)) (fun _ _ _ h => h) (Or.inl ⟨by rfl, ?_⟩) ?_ ?_
         rotate_left
         ·intro w'
          go_simp
          with_reducible rfl
         rotate_left
         ·simp only [Act.put, zl1, zl2, zl3, i64_w, i32_w]
          rfl
         refine one_ (i := 15) (N := some 20) #[Y,Y,Y,Y,Y,Y,Y,Y,Y,Y,Y,Y,Y,Y,Y,Y,Z,Z,Z,Z] rfl rfl (one_of HT_.out (by kernel_rfl)) (by decide) (fun K hK => ?_)
         refine goes_ Tryd.func25 (by kernel_rfl) rfl #[.slice A0_5 l0_5.length c0_5, .int .i64 1] (by rfl) rfl rfl (by (try simp only [List.map_toArray, List.map_cons, List.map_nil]); first | done | rfl | (simp only [List.length_drop, List.length_take]; rfl)) ?_
         with_reducible refine (hallmarkref06_list.calls k _ _ l0_5 1 t207 _ ?side1 ?side2 A9.out).mono ?_
         (case side1 => repeat (first | exact (Kd.C_below HR0_5.out HB.out) | (with_reducible refine Kd.C_alloc ?_ _) | (with_reducible refine Kd.C_drewN ?_ _) | (with_reducible refine Kd.C_drew ?_)))
         (case side2 => exact HC0_5.out)
         rintro e w19 ⟨rfl, hb⟩
         refine ⟨_, rfl, ?_⟩
         replace BK203 := zm (blk_below (g := gb203) (o := .cells #[.int .i64 a0_0, .int .i64 a0_1, .int .i64 a0_2, .int .i64 a0_3, .slice A0_4 l0_4.length c0_4, .slice A0_5 l0_5.length c0_5] 57 (0, 0)) BK203.out hb)
         replace HB := zm (below_step (by repeat (first | (with_reducible first | exact HB.out | apply below_alloc | apply pw_below_drewN | apply below_drew1 | refine below_set ?_ GE203.out) | exact HB.out)) hb)
         (try clear hb)
         (try clear hb2)
         (try clear hk)
         (try clear hi)
         refine hK.out _ _ ⟨(blk_cell BK203.out 0).trans rfl, (blk_cell BK203.out 1).trans rfl, (blk_cell BK203.out 2).trans rfl, (blk_cell BK203.out 3).trans rfl, (blk_cell BK203.out 4).trans rfl, (blk_cell BK203.out 5).trans rfl⟩ (fun hHeld => ?_)
         clear hK K
         refine norm_ (a' := ?_) ?_ ?_
         rotate_left
         ·show Act.put _ (some 20) _ = _
          simp only [Act.put, zl1, zl2, zl3, i64_w, i32_w]
          rfl
         refine pure_ (i := 16) (N := some 21) (v := ?_) (a' := ?_) #[Y,Y,Y,Y,Y,Y,Y,Y,Y,Y,Y,Y,Y,Y,Y,Y,Y,Z,Z,Z] rfl rfl (any_of HT_.out (by kernel_rfl)) (fun _ _ _ h => h) (Or.inl ⟨by rfl, ?_⟩) ?_ ?_
         rotate_left
         ·intro w'
          go_simp
          with_reducible rfl
         rotate_left
         ·simp only [Act.put, zl1, zl2, zl3, i64_w, i32_w]
          rfl
         refine pure_ (i := 17) (N := some 22) (v := ?_) (a' := ?_) #[Y,Y,Y,Y,Y,Y,Y,Y,Y,Y,Y,Y,Y,Y,Y,Y,Y,Y,Z,Z] rfl rfl (any_of HT_.out (by kernel_rfl)) (fun _ _ _ h => h) (Or.inl ⟨by rfl, ?_⟩) ?_ ?_
         rotate_left
         ·intro w'
          go_simp
          with_reducible rfl
         rotate_left
         ·simp only [Act.put, zl1, zl2, zl3, i64_w, i32_w]
          rfl
         refine pure_ (i := 18) (N := some 3) (v := ?_) (a' := ?_) #[Y,Y,Y,Y,Y,Y,Y,Y,Y,Y,Y,Y,Y,Y,Y,Y,Y,Y,Y,Z] rfl rfl (any_of HT_.out (by kernel_rfl)) (fun _ _ _ h => h) (Or.inl ⟨by rfl, ?_⟩) ?_ ?_
         rotate_left
         ·intro w'
          go_simp
          with_reducible rfl
         rotate_left
         ·simp only [Act.put, zl1, zl2, zl3, i64_w, i32_w]
          rfl
         refine pure_ (i := 19) (N := some 4) (v := ?_) (a' := ?_) #[Y,Y,Y,Y,Y,Y,Y,Y,Y,Y,Y,Y,Y,Y,Y,Y,Y,Y,Y,Y] rfl rfl (any_of HT_.out (by kernel_rfl)) (fun _ _ _ h => h) (Or.inl ⟨by rfl, ?_⟩) ?_ ?_
         rotate_left
         ·intro w'
          go_simp
          with_reducible rfl
         rotate_left
         ·simp only [Act.put, zl1, zl2, zl3, i64_w, i32_w]
          rfl
         refine done_ (done_of HT_.out (by kernel_rfl)) ?_
         have hcz20_0 : w19.cell? ⟨gb203, 0, none⟩ = some (.int .i64 a0_0) := (blk_cell BK203.out 0).trans rfl
         have hcz20_1 : w19.cell? ⟨gb203, 1, none⟩ = some (.int .i64 a0_1) := (blk_cell BK203.out 1).trans rfl
         have hcz20_2 : w19.cell? ⟨gb203, 2, none⟩ = some (.int .i64 a0_2) := (blk_cell BK203.out 2).trans rfl
         have hcz20_3 : w19.cell? ⟨gb203, 3, none⟩ = some (.int .i64 a0_3) := (blk_cell BK203.out 3).trans rfl
         have hcz20_4 : w19.cell? ⟨gb203, 4, none⟩ = some (.slice A0_4 l0_4.length c0_4) := (blk_cell BK203.out 4).trans rfl
         have hcz20_5 : w19.cell? ⟨gb203, 5, none⟩ = some (.slice A0_5 l0_5.length c0_5) := (blk_cell BK203.out 5).trans rfl
         have hfz20_0 := blk_frozen BK203.out 0
         have hfz20_1 := blk_frozen BK203.out 1
         have hfz20_2 := blk_frozen BK203.out 2
         have hfz20_3 := blk_frozen BK203.out 3
         have hfz20_4 := blk_frozen BK203.out 4
         have hfz20_5 := blk_frozen BK203.out 5
         try go_wp2
         go_ret
         exact ⟨by first | rfl | (simp [errW_none, errW_some] <;> rfl) | (simp [*, errW_none, errW_some] <;> rfl), by repeat (first | (with_reducible first | exact HB.out | apply below_alloc | apply pw_below_drewN | apply below_drew1 | refine below_set ?_ GE203.out) | exact HB.out)⟩
        ·rw [if_neg c13] at H
         exact absurd H (by simp)
       ·rw [if_neg c12] at H
        have c12b0 : (a0_0 == 0) = false := beq_eq_false_iff_ne.mpr c12
        have c12b1 : (a0_0 != 0) = true := bne_iff_ne.mpr c12
        by_cases c21 : a0_0 = 1
        ·rw [if_pos c21] at H
         have c21b0 : (a0_0 == 1) = true := beq_iff_eq.mpr c21
         have c21b1 : (a0_0 != 1) = false := bne_eq_false_iff_eq.mpr c21
         clear c21
         replace H := Option.bind_eq_some_iff.mp H
         obtain ⟨t208, A220, H⟩ := H
         replace H : (if 8 + t208.size ≤ 9223372036854775807 then (if ((⟨#[98, 114, 97, 110, 99, 104, 32, 118]⟩ : ByteArray) ++ t208).size + 1 ≤ 9223372036854775807 then (if (((⟨#[98, 114, 97, 110, 99, 104, 32, 118]⟩ : ByteArray) ++ t208) ++ (⟨#[32]⟩ : ByteArray)).size + (((t204 ++ (⟨#[40]⟩ : ByteArray)) ++ t205) ++ (⟨#[41]⟩ : ByteArray)).size ≤ 9223372036854775807 then (if ((((⟨#[98, 114, 97, 110, 99, 104, 32, 118]⟩ : ByteArray) ++ t208) ++ (⟨#[32]⟩ : ByteArray)) ++ (((t204 ++ (⟨#[40]⟩ : ByteArray)) ++ t205) ++ (⟨#[41]⟩ : ByteArray))).size + 1 ≤ 9223372036854775807 then (if (((((⟨#[98, 114, 97, 110, 99, 104, 32, 118]⟩ : ByteArray) ++ t208) ++ (⟨#[32]⟩ : ByteArray)) ++ (((t204 ++ (⟨#[40]⟩ : ByteArray)) ++ t205) ++ (⟨#[41]⟩ : ByteArray))) ++ (⟨#[32]⟩ : ByteArray)).size + (((t206 ++ (⟨#[40]⟩ : ByteArray)) ++ t207) ++ (⟨#[41]⟩ : ByteArray)).size ≤ 9223372036854775807 then (some ((((((⟨#[98, 114, 97, 110, 99, 104, 32, 118]⟩ : ByteArray) ++ t208) ++ (⟨#[32]⟩ : ByteArray)) ++ (((t204 ++ (⟨#[40]⟩ : ByteArray)) ++ t205) ++ (⟨#[41]⟩ : ByteArray))) ++ (⟨#[32]⟩ : ByteArray)) ++ (((t206 ++ (⟨#[40]⟩ : ByteArray)) ++ t207) ++ (⟨#[41]⟩ : ByteArray)))) else (none)) else (none)) else (none)) else (none)) else (none)) = some r := H
         have A22 := zm A220
         clear A220
         by_cases c23 : 8 + t208.size ≤ 9223372036854775807
         ·rw [if_pos c23] at H
          have c23b0 := eq_true c23
          have c23b1 : decide (8 + t208.size ≤ 9223372036854775807) = true := decide_eq_true c23
          try have c23b2 : (9223372036854775807 < 8 + t208.size) = False := eq_false (Nat.not_lt.2 c23)
          by_cases c24 : ((⟨#[98, 114, 97, 110, 99, 104, 32, 118]⟩ : ByteArray) ++ t208).size + 1 ≤ 9223372036854775807
          ·rw [if_pos c24] at H
           have c24b0 := eq_true c24
           have c24b1 : decide (((⟨#[98, 114, 97, 110, 99, 104, 32, 118]⟩ : ByteArray) ++ t208).size + 1 ≤ 9223372036854775807) = true := decide_eq_true c24
           have c24n := c24
           simp only [ByteArray.size_append, show (⟨#[98, 114, 97, 110, 99, 104, 32, 118]⟩ : ByteArray).size = 8 from rfl] at c24n
           have c24n0 := eq_true c24n
           have c24n1 := decide_eq_true c24n
           have c24n2 := eq_false (Nat.not_lt.2 c24n)
           clear c24n
           try have c24b2 : (9223372036854775807 < ((⟨#[98, 114, 97, 110, 99, 104, 32, 118]⟩ : ByteArray) ++ t208).size + 1) = False := eq_false (Nat.not_lt.2 c24)
           by_cases c25 : (((⟨#[98, 114, 97, 110, 99, 104, 32, 118]⟩ : ByteArray) ++ t208) ++ (⟨#[32]⟩ : ByteArray)).size + (((t204 ++ (⟨#[40]⟩ : ByteArray)) ++ t205) ++ (⟨#[41]⟩ : ByteArray)).size ≤ 9223372036854775807
           ·rw [if_pos c25] at H
            have c25b0 := eq_true c25
            have c25b1 : decide ((((⟨#[98, 114, 97, 110, 99, 104, 32, 118]⟩ : ByteArray) ++ t208) ++ (⟨#[32]⟩ : ByteArray)).size + (((t204 ++ (⟨#[40]⟩ : ByteArray)) ++ t205) ++ (⟨#[41]⟩ : ByteArray)).size ≤ 9223372036854775807) = true := decide_eq_true c25
            have c25n := c25
            simp only [ByteArray.size_append, show (⟨#[32]⟩ : ByteArray).size = 1 from rfl, show (⟨#[40]⟩ : ByteArray).size = 1 from rfl, show (⟨#[41]⟩ : ByteArray).size = 1 from rfl, show (⟨#[98, 114, 97, 110, 99, 104, 32, 118]⟩ : ByteArray).size = 8 from rfl] at c25n
            have c25n0 := eq_true c25n
            have c25n1 := decide_eq_true c25n
            have c25n2 := eq_false (Nat.not_lt.2 c25n)
            clear c25n
            try have c25b2 : (9223372036854775807 < (((⟨#[98, 114, 97, 110, 99, 104, 32, 118]⟩ : ByteArray) ++ t208) ++ (⟨#[32]⟩ : ByteArray)).size + (((t204 ++ (⟨#[40]⟩ : ByteArray)) ++ t205) ++ (⟨#[41]⟩ : ByteArray)).size) = False := eq_false (Nat.not_lt.2 c25)
            by_cases c26 : ((((⟨#[98, 114, 97, 110, 99, 104, 32, 118]⟩ : ByteArray) ++ t208) ++ (⟨#[32]⟩ : ByteArray)) ++ (((t204 ++ (⟨#[40]⟩ : ByteArray)) ++ t205) ++ (⟨#[41]⟩ : ByteArray))).size + 1 ≤ 9223372036854775807
            ·rw [if_pos c26] at H
             have c26b0 := eq_true c26
             have c26b1 : decide (((((⟨#[98, 114, 97, 110, 99, 104, 32, 118]⟩ : ByteArray) ++ t208) ++ (⟨#[32]⟩ : ByteArray)) ++ (((t204 ++ (⟨#[40]⟩ : ByteArray)) ++ t205) ++ (⟨#[41]⟩ : ByteArray))).size + 1 ≤ 9223372036854775807) = true := decide_eq_true c26
             have c26n := c26
             simp only [ByteArray.size_append, show (⟨#[32]⟩ : ByteArray).size = 1 from rfl, show (⟨#[40]⟩ : ByteArray).size = 1 from rfl, show (⟨#[41]⟩ : ByteArray).size = 1 from rfl, show (⟨#[98, 114, 97, 110, 99, 104, 32, 118]⟩ : ByteArray).size = 8 from rfl] at c26n
             have c26n0 := eq_true c26n
             have c26n1 := decide_eq_true c26n
             have c26n2 := eq_false (Nat.not_lt.2 c26n)
             clear c26n
             try have c26b2 : (9223372036854775807 < ((((⟨#[98, 114, 97, 110, 99, 104, 32, 118]⟩ : ByteArray) ++ t208) ++ (⟨#[32]⟩ : ByteArray)) ++ (((t204 ++ (⟨#[40]⟩ : ByteArray)) ++ t205) ++ (⟨#[41]⟩ : ByteArray))).size + 1) = False := eq_false (Nat.not_lt.2 c26)
             by_cases c27 : (((((⟨#[98, 114, 97, 110, 99, 104, 32, 118]⟩ : ByteArray) ++ t208) ++ (⟨#[32]⟩ : ByteArray)) ++ (((t204 ++ (⟨#[40]⟩ : ByteArray)) ++ t205) ++ (⟨#[41]⟩ : ByteArray))) ++ (⟨#[32]⟩ : ByteArray)).size + (((t206 ++ (⟨#[40]⟩ : ByteArray)) ++ t207) ++ (⟨#[41]⟩ : ByteArray)).size ≤ 9223372036854775807
             ·rw [if_pos c27] at H
              have c27b0 := eq_true c27
              have c27b1 : decide ((((((⟨#[98, 114, 97, 110, 99, 104, 32, 118]⟩ : ByteArray) ++ t208) ++ (⟨#[32]⟩ : ByteArray)) ++ (((t204 ++ (⟨#[40]⟩ : ByteArray)) ++ t205) ++ (⟨#[41]⟩ : ByteArray))) ++ (⟨#[32]⟩ : ByteArray)).size + (((t206 ++ (⟨#[40]⟩ : ByteArray)) ++ t207) ++ (⟨#[41]⟩ : ByteArray)).size ≤ 9223372036854775807) = true := decide_eq_true c27
              have c27n := c27
              simp only [ByteArray.size_append, show (⟨#[32]⟩ : ByteArray).size = 1 from rfl, show (⟨#[40]⟩ : ByteArray).size = 1 from rfl, show (⟨#[41]⟩ : ByteArray).size = 1 from rfl, show (⟨#[98, 114, 97, 110, 99, 104, 32, 118]⟩ : ByteArray).size = 8 from rfl] at c27n
              have c27n0 := eq_true c27n
              have c27n1 := decide_eq_true c27n
              have c27n2 := eq_false (Nat.not_lt.2 c27n)
              clear c27n
              try have c27b2 : (9223372036854775807 < (((((⟨#[98, 114, 97, 110, 99, 104, 32, 118]⟩ : ByteArray) ++ t208) ++ (⟨#[32]⟩ : ByteArray)) ++ (((t204 ++ (⟨#[40]⟩ : ByteArray)) ++ t205) ++ (⟨#[41]⟩ : ByteArray))) ++ (⟨#[32]⟩ : ByteArray)).size + (((t206 ++ (⟨#[40]⟩ : ByteArray)) ++ t207) ++ (⟨#[41]⟩ : ByteArray)).size) = False := eq_false (Nat.not_lt.2 c27)
              obtain rfl := Option.some.inj H
              go_enter Tryd.func37, Tryd.ntmps37
              try go_wp2_with (first | ((with_reducible refine gate_dst (N := 1) rfl ?_); refine box_event ?hg (N := 1) ?hd (cs := #[.int .i64 a0_0, .int .i64 a0_1, .int .i64 a0_2, .int .i64 a0_3, .slice A0_4 l0_4.length c0_4, .slice A0_5 l0_5.length c0_5]) (t := 57) ?hr ?_; (case hd => rfl); (case hg => rfl); (case hr => first | (go_simp; done) | (go_simp; rfl)); intro gb203 hg w28 hbox hb; have n0_ := zm (below_step (by repeat (first | (with_reducible first | exact HB.out | apply below_alloc | apply pw_below_drewN | apply below_drew1) | exact HB.out)) hb); have n1_ := zm (hbox); have n2_ := zm ((by rw [hg]; exact (below_size (by repeat (first | (with_reducible first | exact HB.out | apply below_alloc | apply pw_below_drewN | apply below_drew1) | exact HB.out))) : w.heap.size ≤ gb203)); have n3_ := zm ((by rw [hg]; exact (below_size (by repeat (first | (with_reducible first | exact HB.out | apply below_alloc | apply pw_below_drewN | apply below_drew1) | exact HB.out))) : w.heap.size ≤ gb203)); clear HB; have HB := n0_; have BK203 := n1_; have GW203 := n2_; have GE203 := n3_; clear n0_ n1_ n2_ n3_; clear hb hbox hg))
              replace BK203 := zm (blk_drew BK203.out)
              replace HB := zm (below_drew1 HB.out)
              refine start_ (n := 20) (S := fun w' => w'.cell? ⟨gb203, 0, none⟩ = some (.int .i64 a0_0) ∧ w'.cell? ⟨gb203, 1, none⟩ = some (.int .i64 a0_1) ∧ w'.cell? ⟨gb203, 2, none⟩ = some (.int .i64 a0_2) ∧ w'.cell? ⟨gb203, 3, none⟩ = some (.int .i64 a0_3) ∧ w'.cell? ⟨gb203, 4, none⟩ = some (.slice A0_4 l0_4.length c0_4) ∧ w'.cell? ⟨gb203, 5, none⟩ = some (.slice A0_5 l0_5.length c0_5)) (ds := []) #[Z,Z,Z,Z,Z,Z,Z,Z,Z,Z,Z,Z,Z,Z,Z,Z,Z,Z,Z,Z] (by kernel_rfl) rfl rfl ⟨(blk_cell BK203.out 0).trans rfl, (blk_cell BK203.out 1).trans rfl, (blk_cell BK203.out 2).trans rfl, (blk_cell BK203.out 3).trans rfl, (blk_cell BK203.out 4).trans rfl, (blk_cell BK203.out 5).trans rfl⟩ (fun hHeld => ?_); refine with_tabW hallmarkref06_end.tab1 hallmarkref06_end.bits1 (fun HT_ HW_ => ?_)
              generalize w28.drew = w29 at BK203 HB hHeld ⊢
              refine pure_ (i := 0) (N := some 5) (v := ?_) (a' := ?_) #[Y,Z,Z,Z,Z,Z,Z,Z,Z,Z,Z,Z,Z,Z,Z,Z,Z,Z,Z,Z] rfl rfl (any_of HT_.out (by kernel_rfl)) (fun _ _ _ h => h) (Or.inl ⟨by rfl, ?_⟩) ?_ ?_
              rotate_left
              ·intro w'
               go_simp
               with_reducible rfl
              rotate_left
              ·simp only [Act.put, zl1, zl2, zl3, i64_w, i32_w]
               rfl
              refine pure_ (i := 4) (N := some 9) (v := ?_) (a' := ?_) #[Y,Z,Z,Z,Y,Z,Z,Z,Z,Z,Z,Z,Z,Z,Z,Z,Z,Z,Z,Z] rfl rfl (any_of HT_.out (by kernel_rfl)) (fun _ _ _ h => h) (Or.inl ⟨by rfl, ?_⟩) ?_ ?_
              rotate_left
              ·intro w'
               go_simp
               with_reducible rfl
              rotate_left
              ·simp only [Act.put, zl1, zl2, zl3, i64_w, i32_w]
               rfl
              refine pure_ (i := 9) (N := some 14) (v := ?_) (a' := ?_) #[Y,Z,Z,Z,Y,Z,Z,Z,Z,Y,Z,Z,Z,Z,Z,Z,Z,Z,Z,Z] rfl rfl (any_of HT_.out (by kernel_rfl)) (fun _ _ _ h => h) (Or.inl ⟨by rfl, ?_⟩) ?_ ?_
              rotate_left
              ·intro w'
               go_simp
               with_reducible rfl
              rotate_left
              ·simp only [Act.put, zl1, zl2, zl3, i64_w, i32_w]
               rfl
              refine pure_ (i := 13) (N := some 18) (v := ?_) (a' := ?_) #[Y,Z,Z,Z,Y,Z,Z,Z,Z,Y,Z,Z,Z,Y,Z,Z,Z,Z,Z,Z] rfl rfl (any_of HT_.out (by kernel_rfl)) (fun _ _ _ h => h) (Or.inl ⟨by rfl, ?_⟩) ?_ ?_
              rotate_left
              ·intro w'
               go_simp
               with_reducible rfl
              rotate_left
              ·simp only [Act.put, zl1, zl2, zl3, i64_w, i32_w]
               rfl
              refine take_ (i := 1) (N := some 6) (v := ?_) (a' := ?_) #[Y,Y,Z,Z,Y,Z,Z,Z,Z,Y,Z,Z,Z,Y,Z,Z,Z,Z,Z,Z] rfl rfl (take_ofW HT_.out HW_.out (by kernel_rfl)) (fun _ _ _ h => h) (Or.inl ⟨by rfl, ?_⟩) hHeld ?_ ?_
              rotate_left
              ·rintro w' ⟨s0, s1, s2, s3, s4, s5⟩
               go_simp
               with_reducible rfl
              rotate_left
              ·simp only [Act.put, zl1, zl2, zl3, i64_w, i32_w]
               rfl
              refine take_ (i := 5) (N := some 10) (v := ?_) (a' := ?_) #[Y,Y,Z,Z,Y,Y,Z,Z,Z,Y,Z,Z,Z,Y,Z,Z,Z,Z,Z,Z] rfl rfl (take_ofW HT_.out HW_.out (by kernel_rfl)) (fun _ _ _ h => h) (Or.inl ⟨by rfl, ?_⟩) hHeld ?_ ?_
              rotate_left
              ·rintro w' ⟨s0, s1, s2, s3, s4, s5⟩
               go_simp
               with_reducible rfl
              rotate_left
              ·simp only [Act.put, zl1, zl2, zl3, i64_w, i32_w]
               rfl
              refine take_ (i := 10) (N := some 15) (v := ?_) (a' := ?_) #[Y,Y,Z,Z,Y,Y,Z,Z,Z,Y,Y,Z,Z,Y,Z,Z,Z,Z,Z,Z] rfl rfl (take_ofW HT_.out HW_.out (by kernel_rfl)) (fun _ _ _ h => h) (Or.inl ⟨by rfl, ?_⟩) hHeld ?_ ?_
              rotate_left
              ·rintro w' ⟨s0, s1, s2, s3, s4, s5⟩
               go_simp
               with_reducible rfl
              rotate_left
              ·simp only [Act.put, zl1, zl2, zl3, i64_w, i32_w]
               rfl
              refine take_ (i := 14) (N := some 19) (v := ?_) (a' := ?_) #[Y,Y,Z,Z,Y,Y,Z,Z,Z,Y,Y,Z,Z,Y,Y,Z,Z,Z,Z,Z] rfl rfl (take_ofW HT_.out HW_.out (by kernel_rfl)) (fun _ _ _ h => h) (Or.inl ⟨by rfl, ?_⟩) hHeld ?_ ?_
              rotate_left
              ·rintro w' ⟨s0, s1, s2, s3, s4, s5⟩
               go_simp
               with_reducible rfl
              rotate_left
              ·simp only [Act.put, zl1, zl2, zl3, i64_w, i32_w]
               rfl
              refine one_ (i := 2) (N := some 7) #[Y,Y,Y,Z,Y,Y,Z,Z,Z,Y,Y,Z,Z,Y,Y,Z,Z,Z,Z,Z] rfl rfl (one_of HT_.out (by kernel_rfl)) (by decide) (fun K hK => ?_)
              refine goes_ Tryd.func24 (by kernel_rfl) rfl #[.int .i64 a0_2] (by rfl) rfl rfl (by (try simp only [List.map_toArray, List.map_cons, List.map_nil]); first | done | rfl | (simp only [List.length_drop, List.length_take]; rfl)) ?_
              with_reducible refine (hallmarkref06_num.calls k a0_2 t204 _ A2.out).mono ?_
              rintro e w30 ⟨rfl, hb⟩
              refine ⟨_, rfl, ?_⟩
              replace BK203 := zm (blk_below (g := gb203) (o := .cells #[.int .i64 a0_0, .int .i64 a0_1, .int .i64 a0_2, .int .i64 a0_3, .slice A0_4 l0_4.length c0_4, .slice A0_5 l0_5.length c0_5] 57 (0, 0)) BK203.out hb)
              replace HB := zm (below_step (by repeat (first | (with_reducible first | exact HB.out | apply below_alloc | apply pw_below_drewN | apply below_drew1 | refine below_set ?_ GE203.out) | exact HB.out)) hb)
              (try clear hb)
              (try clear hb2)
              (try clear hk)
              (try clear hi)
              refine hK.out _ _ ⟨(blk_cell BK203.out 0).trans rfl, (blk_cell BK203.out 1).trans rfl, (blk_cell BK203.out 2).trans rfl, (blk_cell BK203.out 3).trans rfl, (blk_cell BK203.out 4).trans rfl, (blk_cell BK203.out 5).trans rfl⟩ (fun hHeld => ?_)
              clear hK K
              refine norm_ (a' := ?_) ?_ ?_
              rotate_left
              ·show Act.put _ (some 7) _ = _
               simp only [Act.put, zl1, zl2, zl3, i64_w, i32_w]
               rfl
              refine pure_ (i := 3) (N := some 8) (v := ?_) (a' := ?_) #[Y,Y,Y,Y,Y,Y,Z,Z,Z,Y,Y,Z,Z,Y,Y,Z,Z,Z,Z,Z] rfl rfl (any_of HT_.out (by kernel_rfl)) (fun _ _ _ h => h) (Or.inl ⟨by rfl, ?_⟩) ?_ ?_
              rotate_left
              ·intro w'
               go_simp
               with_reducible rfl
              rotate_left
              ·simp only [Act.put, zl1, zl2, zl3, i64_w, i32_w]
               rfl
              refine one_ (i := 6) (N := some 11) #[Y,Y,Y,Y,Y,Y,Y,Z,Z,Y,Y,Z,Z,Y,Y,Z,Z,Z,Z,Z] rfl rfl (one_of HT_.out (by kernel_rfl)) (by decide) (fun K hK => ?_)
              refine goes_ Tryd.func25 (by kernel_rfl) rfl #[.slice A0_4 l0_4.length c0_4, .int .i64 1] (by rfl) rfl rfl (by (try simp only [List.map_toArray, List.map_cons, List.map_nil]); first | done | rfl | (simp only [List.length_drop, List.length_take]; rfl)) ?_
              with_reducible refine (hallmarkref06_list.calls k _ _ l0_4 1 t205 _ ?side1 ?side2 A4.out).mono ?_
              (case side1 => repeat (first | exact (Kd.C_below HR0_4.out HB.out) | (with_reducible refine Kd.C_alloc ?_ _) | (with_reducible refine Kd.C_drewN ?_ _) | (with_reducible refine Kd.C_drew ?_)))
              (case side2 => exact HC0_4.out)
              rintro e w31 ⟨rfl, hb⟩
              refine ⟨_, rfl, ?_⟩
              replace BK203 := zm (blk_below (g := gb203) (o := .cells #[.int .i64 a0_0, .int .i64 a0_1, .int .i64 a0_2, .int .i64 a0_3, .slice A0_4 l0_4.length c0_4, .slice A0_5 l0_5.length c0_5] 57 (0, 0)) BK203.out hb)
              replace HB := zm (below_step (by repeat (first | (with_reducible first | exact HB.out | apply below_alloc | apply pw_below_drewN | apply below_drew1 | refine below_set ?_ GE203.out) | exact HB.out)) hb)
              (try clear hb)
              (try clear hb2)
              (try clear hk)
              (try clear hi)
              refine hK.out _ _ ⟨(blk_cell BK203.out 0).trans rfl, (blk_cell BK203.out 1).trans rfl, (blk_cell BK203.out 2).trans rfl, (blk_cell BK203.out 3).trans rfl, (blk_cell BK203.out 4).trans rfl, (blk_cell BK203.out 5).trans rfl⟩ (fun hHeld => ?_)
              clear hK K
              refine norm_ (a' := ?_) ?_ ?_
              rotate_left
              ·show Act.put _ (some 11) _ = _
               simp only [Act.put, zl1, zl2, zl3, i64_w, i32_w]
               rfl
              refine pure_ (i := 7) (N := some 12) (v := ?_) (a' := ?_) #[Y,Y,Y,Y,Y,Y,Y,Y,Z,Y,Y,Z,Z,Y,Y,Z,Z,Z,Z,Z] rfl rfl (any_of HT_.out (by kernel_rfl)) (fun _ _ _ h => h) (Or.inl ⟨by rfl, ?_⟩) ?_ ?_
              rotate_left
              ·intro w'
               go_simp
               with_reducible rfl
              rotate_left
              ·simp only [Act.put, zl1, zl2, zl3, i64_w, i32_w]
               rfl
              refine pure_ (i := 8) (N := some 13) (v := ?_) (a' := ?_) #[Y,Y,Y,Y,Y,Y,Y,Y,Y,Y,Y,Z,Z,Y,Y,Z,Z,Z,Z,Z] rfl rfl (any_of HT_.out (by kernel_rfl)) (fun _ _ _ h => h) (Or.inl ⟨by rfl, ?_⟩) ?_ ?_
              rotate_left
              ·intro w'
               go_simp
               with_reducible rfl
              rotate_left
              ·simp only [Act.put, zl1, zl2, zl3, i64_w, i32_w]
               rfl
              refine one_ (i := 11) (N := some 16) #[Y,Y,Y,Y,Y,Y,Y,Y,Y,Y,Y,Y,Z,Y,Y,Z,Z,Z,Z,Z] rfl rfl (one_of HT_.out (by kernel_rfl)) (by decide) (fun K hK => ?_)
              refine goes_ Tryd.func24 (by kernel_rfl) rfl #[.int .i64 a0_3] (by rfl) rfl rfl (by (try simp only [List.map_toArray, List.map_cons, List.map_nil]); first | done | rfl | (simp only [List.length_drop, List.length_take]; rfl)) ?_
              with_reducible refine (hallmarkref06_num.calls k a0_3 t206 _ A7.out).mono ?_
              rintro e w32 ⟨rfl, hb⟩
              refine ⟨_, rfl, ?_⟩
              replace BK203 := zm (blk_below (g := gb203) (o := .cells #[.int .i64 a0_0, .int .i64 a0_1, .int .i64 a0_2, .int .i64 a0_3, .slice A0_4 l0_4.length c0_4, .slice A0_5 l0_5.length c0_5] 57 (0, 0)) BK203.out hb)
              replace HB := zm (below_step (by repeat (first | (with_reducible first | exact HB.out | apply below_alloc | apply pw_below_drewN | apply below_drew1 | refine below_set ?_ GE203.out) | exact HB.out)) hb)
              (try clear hb)
              (try clear hb2)
              (try clear hk)
              (try clear hi)
              refine hK.out _ _ ⟨(blk_cell BK203.out 0).trans rfl, (blk_cell BK203.out 1).trans rfl, (blk_cell BK203.out 2).trans rfl, (blk_cell BK203.out 3).trans rfl, (blk_cell BK203.out 4).trans rfl, (blk_cell BK203.out 5).trans rfl⟩ (fun hHeld => ?_)
              clear hK K
              refine norm_ (a' := ?_) ?_ ?_
              rotate_left
              ·show Act.put _ (some 16) _ = _
               simp only [Act.put, zl1, zl2, zl3, i64_w, i32_w]
               rfl
              refine pure_ (i := 12) (N := some 17) (v := ?_) (a' := ?_) #[Y,Y,Y,Y,Y,Y,Y,Y,Y,Y,Y,Y,Y,Y,Y,Z,Z,Z,Z,Z] rfl rfl (any_of HT_.out (by kernel_rfl)) (fun _ _ _ h => h) (Or.inl ⟨by rfl, ?_⟩) ?_ ?_
              rotate_left
              ·intro w'
               go_simp
               with_reducible rfl
              rotate_left
              ·simp only [Act.put, zl1, zl2, zl3, i64_w, i32_w]
               rfl
              refine one_ (i := 15) (N := some 20) #[Y,Y,Y,Y,Y,Y,Y,Y,Y,Y,Y,Y,Y,Y,Y,Y,Z,Z,Z,Z] rfl rfl (one_of HT_.out (by kernel_rfl)) (by decide) (fun K hK => ?_)
              refine goes_ Tryd.func25 (by kernel_rfl) rfl #[.slice A0_5 l0_5.length c0_5, .int .i64 1] (by rfl) rfl rfl (by (try simp only [List.map_toArray, List.map_cons, List.map_nil]); first | done | rfl | (simp only [List.length_drop, List.length_take]; rfl)) ?_
              with_reducible refine (hallmarkref06_list.calls k _ _ l0_5 1 t207 _ ?side1 ?side2 A9.out).mono ?_
              (case side1 => repeat (first | exact (Kd.C_below HR0_5.out HB.out) | (with_reducible refine Kd.C_alloc ?_ _) | (with_reducible refine Kd.C_drewN ?_ _) | (with_reducible refine Kd.C_drew ?_)))
              (case side2 => exact HC0_5.out)
              rintro e w33 ⟨rfl, hb⟩
              refine ⟨_, rfl, ?_⟩
              replace BK203 := zm (blk_below (g := gb203) (o := .cells #[.int .i64 a0_0, .int .i64 a0_1, .int .i64 a0_2, .int .i64 a0_3, .slice A0_4 l0_4.length c0_4, .slice A0_5 l0_5.length c0_5] 57 (0, 0)) BK203.out hb)
              replace HB := zm (below_step (by repeat (first | (with_reducible first | exact HB.out | apply below_alloc | apply pw_below_drewN | apply below_drew1 | refine below_set ?_ GE203.out) | exact HB.out)) hb)
              (try clear hb)
              (try clear hb2)
              (try clear hk)
              (try clear hi)
              refine hK.out _ _ ⟨(blk_cell BK203.out 0).trans rfl, (blk_cell BK203.out 1).trans rfl, (blk_cell BK203.out 2).trans rfl, (blk_cell BK203.out 3).trans rfl, (blk_cell BK203.out 4).trans rfl, (blk_cell BK203.out 5).trans rfl⟩ (fun hHeld => ?_)
              clear hK K
              refine norm_ (a' := ?_) ?_ ?_
              rotate_left
              ·show Act.put _ (some 20) _ = _
               simp only [Act.put, zl1, zl2, zl3, i64_w, i32_w]
               rfl
              refine pure_ (i := 16) (N := some 21) (v := ?_) (a' := ?_) #[Y,Y,Y,Y,Y,Y,Y,Y,Y,Y,Y,Y,Y,Y,Y,Y,Y,Z,Z,Z] rfl rfl (any_of HT_.out (by kernel_rfl)) (fun _ _ _ h => h) (Or.inl ⟨by rfl, ?_⟩) ?_ ?_
              rotate_left
              ·intro w'
               go_simp
               with_reducible rfl
              rotate_left
              ·simp only [Act.put, zl1, zl2, zl3, i64_w, i32_w]
               rfl
              refine pure_ (i := 17) (N := some 22) (v := ?_) (a' := ?_) #[Y,Y,Y,Y,Y,Y,Y,Y,Y,Y,Y,Y,Y,Y,Y,Y,Y,Y,Z,Z] rfl rfl (any_of HT_.out (by kernel_rfl)) (fun _ _ _ h => h) (Or.inl ⟨by rfl, ?_⟩) ?_ ?_
              rotate_left
              ·intro w'
               go_simp
               with_reducible rfl
              rotate_left
              ·simp only [Act.put, zl1, zl2, zl3, i64_w, i32_w]
               rfl
              refine pure_ (i := 18) (N := some 3) (v := ?_) (a' := ?_) #[Y,Y,Y,Y,Y,Y,Y,Y,Y,Y,Y,Y,Y,Y,Y,Y,Y,Y,Y,Z] rfl rfl (any_of HT_.out (by kernel_rfl)) (fun _ _ _ h => h) (Or.inl ⟨by rfl, ?_⟩) ?_ ?_
              rotate_left
              ·intro w'
               go_simp
               with_reducible rfl
              rotate_left
              ·simp only [Act.put, zl1, zl2, zl3, i64_w, i32_w]
               rfl
              refine pure_ (i := 19) (N := some 4) (v := ?_) (a' := ?_) #[Y,Y,Y,Y,Y,Y,Y,Y,Y,Y,Y,Y,Y,Y,Y,Y,Y,Y,Y,Y] rfl rfl (any_of HT_.out (by kernel_rfl)) (fun _ _ _ h => h) (Or.inl ⟨by rfl, ?_⟩) ?_ ?_
              rotate_left
              ·intro w'
               go_simp
               with_reducible rfl
              rotate_left
              ·simp only [Act.put, zl1, zl2, zl3, i64_w, i32_w]
               rfl
              refine done_ (done_of HT_.out (by kernel_rfl)) ?_
              have hcz34_0 : w33.cell? ⟨gb203, 0, none⟩ = some (.int .i64 a0_0) := (blk_cell BK203.out 0).trans rfl
              have hcz34_1 : w33.cell? ⟨gb203, 1, none⟩ = some (.int .i64 a0_1) := (blk_cell BK203.out 1).trans rfl
              have hcz34_2 : w33.cell? ⟨gb203, 2, none⟩ = some (.int .i64 a0_2) := (blk_cell BK203.out 2).trans rfl
              have hcz34_3 : w33.cell? ⟨gb203, 3, none⟩ = some (.int .i64 a0_3) := (blk_cell BK203.out 3).trans rfl
              have hcz34_4 : w33.cell? ⟨gb203, 4, none⟩ = some (.slice A0_4 l0_4.length c0_4) := (blk_cell BK203.out 4).trans rfl
              have hcz34_5 : w33.cell? ⟨gb203, 5, none⟩ = some (.slice A0_5 l0_5.length c0_5) := (blk_cell BK203.out 5).trans rfl
              have hfz34_0 := blk_frozen BK203.out 0
              have hfz34_1 := blk_frozen BK203.out 1
              have hfz34_2 := blk_frozen BK203.out 2
              have hfz34_3 := blk_frozen BK203.out 3
              have hfz34_4 := blk_frozen BK203.out 4
              have hfz34_5 := blk_frozen BK203.out 5
              try go_wp2_with (first | ((with_reducible refine gate_callee (f := 24) rfl ?_); refine goesL_ (some 33) rfl rfl Tryd.func24 (by kernel_rfl) rfl #[.int .i64 a0_1] rfl (by (try simp only [List.map_toArray, List.map_cons, List.map_nil]); first | done | rfl | (simp only [List.length_drop, List.length_take]; rfl)) ?_; (with_reducible refine (hallmarkref06_num.calls k a0_1 t208 _ A22.out).mono ?_); rintro e w35 ⟨rfl, hb⟩; refine ⟨_, rfl, ?_⟩; have n0_ := zm (blk_below (g := gb203) (o := .cells #[.int .i64 a0_0, .int .i64 a0_1, .int .i64 a0_2, .int .i64 a0_3, .slice A0_4 l0_4.length c0_4, .slice A0_5 l0_5.length c0_5] 57 (0, 0)) (by (with_reducible repeat (first | refine blk_drewN ?_ _ | refine blk_drew ?_ | refine blk_alloc ?_ _)); exact BK203.out) hb); have n1_ := zm (below_step (by repeat (first | (with_reducible first | exact HB.out | apply below_alloc | apply pw_below_drewN | apply below_drew1 | refine below_set ?_ GE203.out) | exact HB.out)) hb); clear BK203; clear HB; have BK203 := n0_; have HB := n1_; clear n0_ n1_; (try clear hb); (try clear hb2); (try clear hk); (try clear hi)))
              go_ret
              exact ⟨by first | rfl | (simp [errW_none, errW_some] <;> rfl) | (simp [*, errW_none, errW_some] <;> rfl), by repeat (first | (with_reducible first | exact HB.out | apply below_alloc | apply pw_below_drewN | apply below_drew1 | refine below_set ?_ GE203.out) | exact HB.out)⟩
             ·rw [if_neg c27] at H
              exact absurd H (by simp)
            ·rw [if_neg c26] at H
             exact absurd H (by simp)
           ·rw [if_neg c25] at H
            exact absurd H (by simp)
          ·rw [if_neg c24] at H
           exact absurd H (by simp)
         ·rw [if_neg c23] at H
          exact absurd H (by simp)
        ·rw [if_neg c21] at H
         have c21b0 : (a0_0 == 1) = false := beq_eq_false_iff_ne.mpr c21
         have c21b1 : (a0_0 != 1) = true := bne_iff_ne.mpr c21
         by_cases c36 : a0_0 = 2
         ·rw [if_pos c36] at H
          have c36b0 : (a0_0 == 2) = true := beq_iff_eq.mpr c36
          have c36b1 : (a0_0 != 2) = false := bne_eq_false_iff_eq.mpr c36
          clear c36
          replace H := Option.bind_eq_some_iff.mp H
          obtain ⟨t209, A370, H⟩ := H
          replace H : (if 5 + t209.size ≤ 9223372036854775807 then (some ((⟨#[114, 101, 116, 32, 118]⟩ : ByteArray) ++ t209)) else (none)) = some r := H
          have A37 := zm A370
          clear A370
          by_cases c38 : 5 + t209.size ≤ 9223372036854775807
          ·rw [if_pos c38] at H
           have c38b0 := eq_true c38
           have c38b1 : decide (5 + t209.size ≤ 9223372036854775807) = true := decide_eq_true c38
           try have c38b2 : (9223372036854775807 < 5 + t209.size) = False := eq_false (Nat.not_lt.2 c38)
           obtain rfl := Option.some.inj H
           go_enter Tryd.func37, Tryd.ntmps37
           try go_wp2_with (first | ((with_reducible refine gate_dst (N := 1) rfl ?_); refine box_event ?hg (N := 1) ?hd (cs := #[.int .i64 a0_0, .int .i64 a0_1, .int .i64 a0_2, .int .i64 a0_3, .slice A0_4 l0_4.length c0_4, .slice A0_5 l0_5.length c0_5]) (t := 57) ?hr ?_; (case hd => rfl); (case hg => rfl); (case hr => first | (go_simp; done) | (go_simp; rfl)); intro gb203 hg w39 hbox hb; have n0_ := zm (below_step (by repeat (first | (with_reducible first | exact HB.out | apply below_alloc | apply pw_below_drewN | apply below_drew1) | exact HB.out)) hb); have n1_ := zm (hbox); have n2_ := zm ((by rw [hg]; exact (below_size (by repeat (first | (with_reducible first | exact HB.out | apply below_alloc | apply pw_below_drewN | apply below_drew1) | exact HB.out))) : w.heap.size ≤ gb203)); have n3_ := zm ((by rw [hg]; exact (below_size (by repeat (first | (with_reducible first | exact HB.out | apply below_alloc | apply pw_below_drewN | apply below_drew1) | exact HB.out))) : w.heap.size ≤ gb203)); clear HB; have HB := n0_; have BK203 := n1_; have GW203 := n2_; have GE203 := n3_; clear n0_ n1_ n2_ n3_; clear hb hbox hg))
           replace BK203 := zm (blk_drew BK203.out)
           replace HB := zm (below_drew1 HB.out)
           refine start_ (n := 20) (S := fun w' => w'.cell? ⟨gb203, 0, none⟩ = some (.int .i64 a0_0) ∧ w'.cell? ⟨gb203, 1, none⟩ = some (.int .i64 a0_1) ∧ w'.cell? ⟨gb203, 2, none⟩ = some (.int .i64 a0_2) ∧ w'.cell? ⟨gb203, 3, none⟩ = some (.int .i64 a0_3) ∧ w'.cell? ⟨gb203, 4, none⟩ = some (.slice A0_4 l0_4.length c0_4) ∧ w'.cell? ⟨gb203, 5, none⟩ = some (.slice A0_5 l0_5.length c0_5)) (ds := []) #[Z,Z,Z,Z,Z,Z,Z,Z,Z,Z,Z,Z,Z,Z,Z,Z,Z,Z,Z,Z] (by kernel_rfl) rfl rfl ⟨(blk_cell BK203.out 0).trans rfl, (blk_cell BK203.out 1).trans rfl, (blk_cell BK203.out 2).trans rfl, (blk_cell BK203.out 3).trans rfl, (blk_cell BK203.out 4).trans rfl, (blk_cell BK203.out 5).trans rfl⟩ (fun hHeld => ?_); refine with_tabW hallmarkref06_end.tab1 hallmarkref06_end.bits1 (fun HT_ HW_ => ?_)
           generalize w39.drew = w40 at BK203 HB hHeld ⊢
           refine pure_ (i := 0) (N := some 5) (v := ?_) (a' := ?_) #[Y,Z,Z,Z,Z,Z,Z,Z,Z,Z,Z,Z,Z,Z,Z,Z,Z,Z,Z,Z] rfl rfl (any_of HT_.out (by kernel_rfl)) (fun _ _ _ h => h) (Or.inl ⟨by rfl, ?_⟩) ?_ ?_
           rotate_left
           ·intro w'
            go_simp
            with_reducible rfl
           rotate_left
           ·simp only [Act.put, zl1, zl2, zl3, i64_w, i32_w]
            rfl
           refine pure_ (i := 4) (N := some 9) (v := ?_) (a' := ?_) #[Y,Z,Z,Z,Y,Z,Z,Z,Z,Z,Z,Z,Z,Z,Z,Z,Z,Z,Z,Z] rfl rfl (any_of HT_.out (by kernel_rfl)) (fun _ _ _ h => h) (Or.inl ⟨by rfl, ?_⟩) ?_ ?_
           rotate_left
           ·intro w'
            go_simp
            with_reducible rfl
           rotate_left
           ·simp only [Act.put, zl1, zl2, zl3, i64_w, i32_w]
            rfl
           refine pure_ (i := 9) (N := some 14) (v := ?_) (a' := ?_) #[Y,Z,Z,Z,Y,Z,Z,Z,Z,Y,Z,Z,Z,Z,Z,Z,Z,Z,Z,Z] rfl rfl (any_of HT_.out (by kernel_rfl)) (fun _ _ _ h => h) (Or.inl ⟨by rfl, ?_⟩) ?_ ?_
           rotate_left
           ·intro w'
            go_simp
            with_reducible rfl
           rotate_left
           ·simp only [Act.put, zl1, zl2, zl3, i64_w, i32_w]
            rfl
           refine pure_ (i := 13) (N := some 18) (v := ?_) (a' := ?_) #[Y,Z,Z,Z,Y,Z,Z,Z,Z,Y,Z,Z,Z,Y,Z,Z,Z,Z,Z,Z] rfl rfl (any_of HT_.out (by kernel_rfl)) (fun _ _ _ h => h) (Or.inl ⟨by rfl, ?_⟩) ?_ ?_
           rotate_left
           ·intro w'
            go_simp
            with_reducible rfl
           rotate_left
           ·simp only [Act.put, zl1, zl2, zl3, i64_w, i32_w]
            rfl
           refine take_ (i := 1) (N := some 6) (v := ?_) (a' := ?_) #[Y,Y,Z,Z,Y,Z,Z,Z,Z,Y,Z,Z,Z,Y,Z,Z,Z,Z,Z,Z] rfl rfl (take_ofW HT_.out HW_.out (by kernel_rfl)) (fun _ _ _ h => h) (Or.inl ⟨by rfl, ?_⟩) hHeld ?_ ?_
           rotate_left
           ·rintro w' ⟨s0, s1, s2, s3, s4, s5⟩
            go_simp
            with_reducible rfl
           rotate_left
           ·simp only [Act.put, zl1, zl2, zl3, i64_w, i32_w]
            rfl
           refine take_ (i := 5) (N := some 10) (v := ?_) (a' := ?_) #[Y,Y,Z,Z,Y,Y,Z,Z,Z,Y,Z,Z,Z,Y,Z,Z,Z,Z,Z,Z] rfl rfl (take_ofW HT_.out HW_.out (by kernel_rfl)) (fun _ _ _ h => h) (Or.inl ⟨by rfl, ?_⟩) hHeld ?_ ?_
           rotate_left
           ·rintro w' ⟨s0, s1, s2, s3, s4, s5⟩
            go_simp
            with_reducible rfl
           rotate_left
           ·simp only [Act.put, zl1, zl2, zl3, i64_w, i32_w]
            rfl
           refine take_ (i := 10) (N := some 15) (v := ?_) (a' := ?_) #[Y,Y,Z,Z,Y,Y,Z,Z,Z,Y,Y,Z,Z,Y,Z,Z,Z,Z,Z,Z] rfl rfl (take_ofW HT_.out HW_.out (by kernel_rfl)) (fun _ _ _ h => h) (Or.inl ⟨by rfl, ?_⟩) hHeld ?_ ?_
           rotate_left
           ·rintro w' ⟨s0, s1, s2, s3, s4, s5⟩
            go_simp
            with_reducible rfl
           rotate_left
           ·simp only [Act.put, zl1, zl2, zl3, i64_w, i32_w]
            rfl
           refine take_ (i := 14) (N := some 19) (v := ?_) (a' := ?_) #[Y,Y,Z,Z,Y,Y,Z,Z,Z,Y,Y,Z,Z,Y,Y,Z,Z,Z,Z,Z] rfl rfl (take_ofW HT_.out HW_.out (by kernel_rfl)) (fun _ _ _ h => h) (Or.inl ⟨by rfl, ?_⟩) hHeld ?_ ?_
           rotate_left
           ·rintro w' ⟨s0, s1, s2, s3, s4, s5⟩
            go_simp
            with_reducible rfl
           rotate_left
           ·simp only [Act.put, zl1, zl2, zl3, i64_w, i32_w]
            rfl
           refine one_ (i := 2) (N := some 7) #[Y,Y,Y,Z,Y,Y,Z,Z,Z,Y,Y,Z,Z,Y,Y,Z,Z,Z,Z,Z] rfl rfl (one_of HT_.out (by kernel_rfl)) (by decide) (fun K hK => ?_)
           refine goes_ Tryd.func24 (by kernel_rfl) rfl #[.int .i64 a0_2] (by rfl) rfl rfl (by (try simp only [List.map_toArray, List.map_cons, List.map_nil]); first | done | rfl | (simp only [List.length_drop, List.length_take]; rfl)) ?_
           with_reducible refine (hallmarkref06_num.calls k a0_2 t204 _ A2.out).mono ?_
           rintro e w41 ⟨rfl, hb⟩
           refine ⟨_, rfl, ?_⟩
           replace BK203 := zm (blk_below (g := gb203) (o := .cells #[.int .i64 a0_0, .int .i64 a0_1, .int .i64 a0_2, .int .i64 a0_3, .slice A0_4 l0_4.length c0_4, .slice A0_5 l0_5.length c0_5] 57 (0, 0)) BK203.out hb)
           replace HB := zm (below_step (by repeat (first | (with_reducible first | exact HB.out | apply below_alloc | apply pw_below_drewN | apply below_drew1 | refine below_set ?_ GE203.out) | exact HB.out)) hb)
           (try clear hb)
           (try clear hb2)
           (try clear hk)
           (try clear hi)
           refine hK.out _ _ ⟨(blk_cell BK203.out 0).trans rfl, (blk_cell BK203.out 1).trans rfl, (blk_cell BK203.out 2).trans rfl, (blk_cell BK203.out 3).trans rfl, (blk_cell BK203.out 4).trans rfl, (blk_cell BK203.out 5).trans rfl⟩ (fun hHeld => ?_)
           clear hK K
           refine norm_ (a' := ?_) ?_ ?_
           rotate_left
           ·show Act.put _ (some 7) _ = _
            simp only [Act.put, zl1, zl2, zl3, i64_w, i32_w]
            rfl
           refine pure_ (i := 3) (N := some 8) (v := ?_) (a' := ?_) #[Y,Y,Y,Y,Y,Y,Z,Z,Z,Y,Y,Z,Z,Y,Y,Z,Z,Z,Z,Z] rfl rfl (any_of HT_.out (by kernel_rfl)) (fun _ _ _ h => h) (Or.inl ⟨by rfl, ?_⟩) ?_ ?_
           rotate_left
           ·intro w'
            go_simp
            with_reducible rfl
           rotate_left
           ·simp only [Act.put, zl1, zl2, zl3, i64_w, i32_w]
            rfl
           refine one_ (i := 6) (N := some 11) #[Y,Y,Y,Y,Y,Y,Y,Z,Z,Y,Y,Z,Z,Y,Y,Z,Z,Z,Z,Z] rfl rfl (one_of HT_.out (by kernel_rfl)) (by decide) (fun K hK => ?_)
           refine goes_ Tryd.func25 (by kernel_rfl) rfl #[.slice A0_4 l0_4.length c0_4, .int .i64 1] (by rfl) rfl rfl (by (try simp only [List.map_toArray, List.map_cons, List.map_nil]); first | done | rfl | (simp only [List.length_drop, List.length_take]; rfl)) ?_
           with_reducible refine (hallmarkref06_list.calls k _ _ l0_4 1 t205 _ ?side1 ?side2 A4.out).mono ?_
           (case side1 => repeat (first | exact (Kd.C_below HR0_4.out HB.out) | (with_reducible refine Kd.C_alloc ?_ _) | (with_reducible refine Kd.C_drewN ?_ _) | (with_reducible refine Kd.C_drew ?_)))
           (case side2 => exact HC0_4.out)
           rintro e w42 ⟨rfl, hb⟩
           refine ⟨_, rfl, ?_⟩
           replace BK203 := zm (blk_below (g := gb203) (o := .cells #[.int .i64 a0_0, .int .i64 a0_1, .int .i64 a0_2, .int .i64 a0_3, .slice A0_4 l0_4.length c0_4, .slice A0_5 l0_5.length c0_5] 57 (0, 0)) BK203.out hb)
           replace HB := zm (below_step (by repeat (first | (with_reducible first | exact HB.out | apply below_alloc | apply pw_below_drewN | apply below_drew1 | refine below_set ?_ GE203.out) | exact HB.out)) hb)
           (try clear hb)
           (try clear hb2)
           (try clear hk)
           (try clear hi)
           refine hK.out _ _ ⟨(blk_cell BK203.out 0).trans rfl, (blk_cell BK203.out 1).trans rfl, (blk_cell BK203.out 2).trans rfl, (blk_cell BK203.out 3).trans rfl, (blk_cell BK203.out 4).trans rfl, (blk_cell BK203.out 5).trans rfl⟩ (fun hHeld => ?_)
           clear hK K
           refine norm_ (a' := ?_) ?_ ?_
           rotate_left
           ·show Act.put _ (some 11) _ = _
            simp only [Act.put, zl1, zl2, zl3, i64_w, i32_w]
            rfl
           refine pure_ (i := 7) (N := some 12) (v := ?_) (a' := ?_) #[Y,Y,Y,Y,Y,Y,Y,Y,Z,Y,Y,Z,Z,Y,Y,Z,Z,Z,Z,Z] rfl rfl (any_of HT_.out (by kernel_rfl)) (fun _ _ _ h => h) (Or.inl ⟨by rfl, ?_⟩) ?_ ?_
           rotate_left
           ·intro w'
            go_simp
            with_reducible rfl
           rotate_left
           ·simp only [Act.put, zl1, zl2, zl3, i64_w, i32_w]
            rfl
           refine pure_ (i := 8) (N := some 13) (v := ?_) (a' := ?_) #[Y,Y,Y,Y,Y,Y,Y,Y,Y,Y,Y,Z,Z,Y,Y,Z,Z,Z,Z,Z] rfl rfl (any_of HT_.out (by kernel_rfl)) (fun _ _ _ h => h) (Or.inl ⟨by rfl, ?_⟩) ?_ ?_
           rotate_left
           ·intro w'
            go_simp
            with_reducible rfl
           rotate_left
           ·simp only [Act.put, zl1, zl2, zl3, i64_w, i32_w]
            rfl
           refine one_ (i := 11) (N := some 16) #[Y,Y,Y,Y,Y,Y,Y,Y,Y,Y,Y,Y,Z,Y,Y,Z,Z,Z,Z,Z] rfl rfl (one_of HT_.out (by kernel_rfl)) (by decide) (fun K hK => ?_)
           refine goes_ Tryd.func24 (by kernel_rfl) rfl #[.int .i64 a0_3] (by rfl) rfl rfl (by (try simp only [List.map_toArray, List.map_cons, List.map_nil]); first | done | rfl | (simp only [List.length_drop, List.length_take]; rfl)) ?_
           with_reducible refine (hallmarkref06_num.calls k a0_3 t206 _ A7.out).mono ?_
           rintro e w43 ⟨rfl, hb⟩
           refine ⟨_, rfl, ?_⟩
           replace BK203 := zm (blk_below (g := gb203) (o := .cells #[.int .i64 a0_0, .int .i64 a0_1, .int .i64 a0_2, .int .i64 a0_3, .slice A0_4 l0_4.length c0_4, .slice A0_5 l0_5.length c0_5] 57 (0, 0)) BK203.out hb)
           replace HB := zm (below_step (by repeat (first | (with_reducible first | exact HB.out | apply below_alloc | apply pw_below_drewN | apply below_drew1 | refine below_set ?_ GE203.out) | exact HB.out)) hb)
           (try clear hb)
           (try clear hb2)
           (try clear hk)
           (try clear hi)
           refine hK.out _ _ ⟨(blk_cell BK203.out 0).trans rfl, (blk_cell BK203.out 1).trans rfl, (blk_cell BK203.out 2).trans rfl, (blk_cell BK203.out 3).trans rfl, (blk_cell BK203.out 4).trans rfl, (blk_cell BK203.out 5).trans rfl⟩ (fun hHeld => ?_)
           clear hK K
           refine norm_ (a' := ?_) ?_ ?_
           rotate_left
           ·show Act.put _ (some 16) _ = _
            simp only [Act.put, zl1, zl2, zl3, i64_w, i32_w]
            rfl
           refine pure_ (i := 12) (N := some 17) (v := ?_) (a' := ?_) #[Y,Y,Y,Y,Y,Y,Y,Y,Y,Y,Y,Y,Y,Y,Y,Z,Z,Z,Z,Z] rfl rfl (any_of HT_.out (by kernel_rfl)) (fun _ _ _ h => h) (Or.inl ⟨by rfl, ?_⟩) ?_ ?_
           rotate_left
           ·intro w'
            go_simp
            with_reducible rfl
           rotate_left
           ·simp only [Act.put, zl1, zl2, zl3, i64_w, i32_w]
            rfl
           refine one_ (i := 15) (N := some 20) #[Y,Y,Y,Y,Y,Y,Y,Y,Y,Y,Y,Y,Y,Y,Y,Y,Z,Z,Z,Z] rfl rfl (one_of HT_.out (by kernel_rfl)) (by decide) (fun K hK => ?_)
           refine goes_ Tryd.func25 (by kernel_rfl) rfl #[.slice A0_5 l0_5.length c0_5, .int .i64 1] (by rfl) rfl rfl (by (try simp only [List.map_toArray, List.map_cons, List.map_nil]); first | done | rfl | (simp only [List.length_drop, List.length_take]; rfl)) ?_
           with_reducible refine (hallmarkref06_list.calls k _ _ l0_5 1 t207 _ ?side1 ?side2 A9.out).mono ?_
           (case side1 => repeat (first | exact (Kd.C_below HR0_5.out HB.out) | (with_reducible refine Kd.C_alloc ?_ _) | (with_reducible refine Kd.C_drewN ?_ _) | (with_reducible refine Kd.C_drew ?_)))
           (case side2 => exact HC0_5.out)
           rintro e w44 ⟨rfl, hb⟩
           refine ⟨_, rfl, ?_⟩
           replace BK203 := zm (blk_below (g := gb203) (o := .cells #[.int .i64 a0_0, .int .i64 a0_1, .int .i64 a0_2, .int .i64 a0_3, .slice A0_4 l0_4.length c0_4, .slice A0_5 l0_5.length c0_5] 57 (0, 0)) BK203.out hb)
           replace HB := zm (below_step (by repeat (first | (with_reducible first | exact HB.out | apply below_alloc | apply pw_below_drewN | apply below_drew1 | refine below_set ?_ GE203.out) | exact HB.out)) hb)
           (try clear hb)
           (try clear hb2)
           (try clear hk)
           (try clear hi)
           refine hK.out _ _ ⟨(blk_cell BK203.out 0).trans rfl, (blk_cell BK203.out 1).trans rfl, (blk_cell BK203.out 2).trans rfl, (blk_cell BK203.out 3).trans rfl, (blk_cell BK203.out 4).trans rfl, (blk_cell BK203.out 5).trans rfl⟩ (fun hHeld => ?_)
           clear hK K
           refine norm_ (a' := ?_) ?_ ?_
           rotate_left
           ·show Act.put _ (some 20) _ = _
            simp only [Act.put, zl1, zl2, zl3, i64_w, i32_w]
            rfl
           refine pure_ (i := 16) (N := some 21) (v := ?_) (a' := ?_) #[Y,Y,Y,Y,Y,Y,Y,Y,Y,Y,Y,Y,Y,Y,Y,Y,Y,Z,Z,Z] rfl rfl (any_of HT_.out (by kernel_rfl)) (fun _ _ _ h => h) (Or.inl ⟨by rfl, ?_⟩) ?_ ?_
           rotate_left
           ·intro w'
            go_simp
            with_reducible rfl
           rotate_left
           ·simp only [Act.put, zl1, zl2, zl3, i64_w, i32_w]
            rfl
           refine pure_ (i := 17) (N := some 22) (v := ?_) (a' := ?_) #[Y,Y,Y,Y,Y,Y,Y,Y,Y,Y,Y,Y,Y,Y,Y,Y,Y,Y,Z,Z] rfl rfl (any_of HT_.out (by kernel_rfl)) (fun _ _ _ h => h) (Or.inl ⟨by rfl, ?_⟩) ?_ ?_
           rotate_left
           ·intro w'
            go_simp
            with_reducible rfl
           rotate_left
           ·simp only [Act.put, zl1, zl2, zl3, i64_w, i32_w]
            rfl
           refine pure_ (i := 18) (N := some 3) (v := ?_) (a' := ?_) #[Y,Y,Y,Y,Y,Y,Y,Y,Y,Y,Y,Y,Y,Y,Y,Y,Y,Y,Y,Z] rfl rfl (any_of HT_.out (by kernel_rfl)) (fun _ _ _ h => h) (Or.inl ⟨by rfl, ?_⟩) ?_ ?_
           rotate_left
           ·intro w'
            go_simp
            with_reducible rfl
           rotate_left
           ·simp only [Act.put, zl1, zl2, zl3, i64_w, i32_w]
            rfl
           refine pure_ (i := 19) (N := some 4) (v := ?_) (a' := ?_) #[Y,Y,Y,Y,Y,Y,Y,Y,Y,Y,Y,Y,Y,Y,Y,Y,Y,Y,Y,Y] rfl rfl (any_of HT_.out (by kernel_rfl)) (fun _ _ _ h => h) (Or.inl ⟨by rfl, ?_⟩) ?_ ?_
           rotate_left
           ·intro w'
            go_simp
            with_reducible rfl
           rotate_left
           ·simp only [Act.put, zl1, zl2, zl3, i64_w, i32_w]
            rfl
           refine done_ (done_of HT_.out (by kernel_rfl)) ?_
           have hcz45_0 : w44.cell? ⟨gb203, 0, none⟩ = some (.int .i64 a0_0) := (blk_cell BK203.out 0).trans rfl
           have hcz45_1 : w44.cell? ⟨gb203, 1, none⟩ = some (.int .i64 a0_1) := (blk_cell BK203.out 1).trans rfl
           have hcz45_2 : w44.cell? ⟨gb203, 2, none⟩ = some (.int .i64 a0_2) := (blk_cell BK203.out 2).trans rfl
           have hcz45_3 : w44.cell? ⟨gb203, 3, none⟩ = some (.int .i64 a0_3) := (blk_cell BK203.out 3).trans rfl
           have hcz45_4 : w44.cell? ⟨gb203, 4, none⟩ = some (.slice A0_4 l0_4.length c0_4) := (blk_cell BK203.out 4).trans rfl
           have hcz45_5 : w44.cell? ⟨gb203, 5, none⟩ = some (.slice A0_5 l0_5.length c0_5) := (blk_cell BK203.out 5).trans rfl
           have hfz45_0 := blk_frozen BK203.out 0
           have hfz45_1 := blk_frozen BK203.out 1
           have hfz45_2 := blk_frozen BK203.out 2
           have hfz45_3 := blk_frozen BK203.out 3
           have hfz45_4 := blk_frozen BK203.out 4
           have hfz45_5 := blk_frozen BK203.out 5
           try go_wp2_with (first | ((with_reducible refine gate_callee (f := 24) rfl ?_); refine goesL_ (some 45) rfl rfl Tryd.func24 (by kernel_rfl) rfl #[.int .i64 a0_1] rfl (by (try simp only [List.map_toArray, List.map_cons, List.map_nil]); first | done | rfl | (simp only [List.length_drop, List.length_take]; rfl)) ?_; (with_reducible refine (hallmarkref06_num.calls k a0_1 t209 _ A37.out).mono ?_); rintro e w46 ⟨rfl, hb⟩; refine ⟨_, rfl, ?_⟩; have n0_ := zm (blk_below (g := gb203) (o := .cells #[.int .i64 a0_0, .int .i64 a0_1, .int .i64 a0_2, .int .i64 a0_3, .slice A0_4 l0_4.length c0_4, .slice A0_5 l0_5.length c0_5] 57 (0, 0)) (by (with_reducible repeat (first | refine blk_drewN ?_ _ | refine blk_drew ?_ | refine blk_alloc ?_ _)); exact BK203.out) hb); have n1_ := zm (below_step (by repeat (first | (with_reducible first | exact HB.out | apply below_alloc | apply pw_below_drewN | apply below_drew1 | refine below_set ?_ GE203.out) | exact HB.out)) hb); clear BK203; clear HB; have BK203 := n0_; have HB := n1_; clear n0_ n1_; (try clear hb); (try clear hb2); (try clear hk); (try clear hi)))
           go_ret
           exact ⟨by first | rfl | (simp [errW_none, errW_some] <;> rfl) | (simp [*, errW_none, errW_some] <;> rfl), by repeat (first | (with_reducible first | exact HB.out | apply below_alloc | apply pw_below_drewN | apply below_drew1 | refine below_set ?_ GE203.out) | exact HB.out)⟩
          ·rw [if_neg c38] at H
           exact absurd H (by simp)
         ·rw [if_neg c36] at H
          have c36b0 : (a0_0 == 2) = false := beq_eq_false_iff_ne.mpr c36
          have c36b1 : (a0_0 != 2) = true := bne_iff_ne.mpr c36
          by_cases c47 : a0_0 = 3
          ·rw [if_pos c47] at H
           have c47b0 : (a0_0 == 3) = true := beq_iff_eq.mpr c47
           have c47b1 : (a0_0 != 3) = false := bne_eq_false_iff_eq.mpr c47
           clear c47
           replace H := Option.bind_eq_some_iff.mp H
           obtain ⟨t210, A480, H⟩ := H
           replace H : (if 6 + t210.size ≤ 9223372036854775807 then (some ((⟨#[115, 116, 111, 112, 32, 118]⟩ : ByteArray) ++ t210)) else (none)) = some r := H
           have A48 := zm A480
           clear A480
           by_cases c49 : 6 + t210.size ≤ 9223372036854775807
           ·rw [if_pos c49] at H
            have c49b0 := eq_true c49
            have c49b1 : decide (6 + t210.size ≤ 9223372036854775807) = true := decide_eq_true c49
            try have c49b2 : (9223372036854775807 < 6 + t210.size) = False := eq_false (Nat.not_lt.2 c49)
            obtain rfl := Option.some.inj H
            go_enter Tryd.func37, Tryd.ntmps37
            try go_wp2_with (first | ((with_reducible refine gate_dst (N := 1) rfl ?_); refine box_event ?hg (N := 1) ?hd (cs := #[.int .i64 a0_0, .int .i64 a0_1, .int .i64 a0_2, .int .i64 a0_3, .slice A0_4 l0_4.length c0_4, .slice A0_5 l0_5.length c0_5]) (t := 57) ?hr ?_; (case hd => rfl); (case hg => rfl); (case hr => first | (go_simp; done) | (go_simp; rfl)); intro gb203 hg w50 hbox hb; have n0_ := zm (below_step (by repeat (first | (with_reducible first | exact HB.out | apply below_alloc | apply pw_below_drewN | apply below_drew1) | exact HB.out)) hb); have n1_ := zm (hbox); have n2_ := zm ((by rw [hg]; exact (below_size (by repeat (first | (with_reducible first | exact HB.out | apply below_alloc | apply pw_below_drewN | apply below_drew1) | exact HB.out))) : w.heap.size ≤ gb203)); have n3_ := zm ((by rw [hg]; exact (below_size (by repeat (first | (with_reducible first | exact HB.out | apply below_alloc | apply pw_below_drewN | apply below_drew1) | exact HB.out))) : w.heap.size ≤ gb203)); clear HB; have HB := n0_; have BK203 := n1_; have GW203 := n2_; have GE203 := n3_; clear n0_ n1_ n2_ n3_; clear hb hbox hg))
            replace BK203 := zm (blk_drew BK203.out)
            replace HB := zm (below_drew1 HB.out)
            refine start_ (n := 20) (S := fun w' => w'.cell? ⟨gb203, 0, none⟩ = some (.int .i64 a0_0) ∧ w'.cell? ⟨gb203, 1, none⟩ = some (.int .i64 a0_1) ∧ w'.cell? ⟨gb203, 2, none⟩ = some (.int .i64 a0_2) ∧ w'.cell? ⟨gb203, 3, none⟩ = some (.int .i64 a0_3) ∧ w'.cell? ⟨gb203, 4, none⟩ = some (.slice A0_4 l0_4.length c0_4) ∧ w'.cell? ⟨gb203, 5, none⟩ = some (.slice A0_5 l0_5.length c0_5)) (ds := []) #[Z,Z,Z,Z,Z,Z,Z,Z,Z,Z,Z,Z,Z,Z,Z,Z,Z,Z,Z,Z] (by kernel_rfl) rfl rfl ⟨(blk_cell BK203.out 0).trans rfl, (blk_cell BK203.out 1).trans rfl, (blk_cell BK203.out 2).trans rfl, (blk_cell BK203.out 3).trans rfl, (blk_cell BK203.out 4).trans rfl, (blk_cell BK203.out 5).trans rfl⟩ (fun hHeld => ?_); refine with_tabW hallmarkref06_end.tab1 hallmarkref06_end.bits1 (fun HT_ HW_ => ?_)
            generalize w50.drew = w51 at BK203 HB hHeld ⊢
            refine pure_ (i := 0) (N := some 5) (v := ?_) (a' := ?_) #[Y,Z,Z,Z,Z,Z,Z,Z,Z,Z,Z,Z,Z,Z,Z,Z,Z,Z,Z,Z] rfl rfl (any_of HT_.out (by kernel_rfl)) (fun _ _ _ h => h) (Or.inl ⟨by rfl, ?_⟩) ?_ ?_
            rotate_left
            ·intro w'
             go_simp
             with_reducible rfl
            rotate_left
            ·simp only [Act.put, zl1, zl2, zl3, i64_w, i32_w]
             rfl
            refine pure_ (i := 4) (N := some 9) (v := ?_) (a' := ?_) #[Y,Z,Z,Z,Y,Z,Z,Z,Z,Z,Z,Z,Z,Z,Z,Z,Z,Z,Z,Z] rfl rfl (any_of HT_.out (by kernel_rfl)) (fun _ _ _ h => h) (Or.inl ⟨by rfl, ?_⟩) ?_ ?_
            rotate_left
            ·intro w'
             go_simp
             with_reducible rfl
            rotate_left
            ·simp only [Act.put, zl1, zl2, zl3, i64_w, i32_w]
             rfl
            refine pure_ (i := 9) (N := some 14) (v := ?_) (a' := ?_) #[Y,Z,Z,Z,Y,Z,Z,Z,Z,Y,Z,Z,Z,Z,Z,Z,Z,Z,Z,Z] rfl rfl (any_of HT_.out (by kernel_rfl)) (fun _ _ _ h => h) (Or.inl ⟨by rfl, ?_⟩) ?_ ?_
            rotate_left
            ·intro w'
             go_simp
             with_reducible rfl
            rotate_left
            ·simp only [Act.put, zl1, zl2, zl3, i64_w, i32_w]
             rfl
            refine pure_ (i := 13) (N := some 18) (v := ?_) (a' := ?_) #[Y,Z,Z,Z,Y,Z,Z,Z,Z,Y,Z,Z,Z,Y,Z,Z,Z,Z,Z,Z] rfl rfl (any_of HT_.out (by kernel_rfl)) (fun _ _ _ h => h) (Or.inl ⟨by rfl, ?_⟩) ?_ ?_
            rotate_left
            ·intro w'
             go_simp
             with_reducible rfl
            rotate_left
            ·simp only [Act.put, zl1, zl2, zl3, i64_w, i32_w]
             rfl
            refine take_ (i := 1) (N := some 6) (v := ?_) (a' := ?_) #[Y,Y,Z,Z,Y,Z,Z,Z,Z,Y,Z,Z,Z,Y,Z,Z,Z,Z,Z,Z] rfl rfl (take_ofW HT_.out HW_.out (by kernel_rfl)) (fun _ _ _ h => h) (Or.inl ⟨by rfl, ?_⟩) hHeld ?_ ?_
            rotate_left
            ·rintro w' ⟨s0, s1, s2, s3, s4, s5⟩
             go_simp
             with_reducible rfl
            rotate_left
            ·simp only [Act.put, zl1, zl2, zl3, i64_w, i32_w]
             rfl
            refine take_ (i := 5) (N := some 10) (v := ?_) (a' := ?_) #[Y,Y,Z,Z,Y,Y,Z,Z,Z,Y,Z,Z,Z,Y,Z,Z,Z,Z,Z,Z] rfl rfl (take_ofW HT_.out HW_.out (by kernel_rfl)) (fun _ _ _ h => h) (Or.inl ⟨by rfl, ?_⟩) hHeld ?_ ?_
            rotate_left
            ·rintro w' ⟨s0, s1, s2, s3, s4, s5⟩
             go_simp
             with_reducible rfl
            rotate_left
            ·simp only [Act.put, zl1, zl2, zl3, i64_w, i32_w]
             rfl
            refine take_ (i := 10) (N := some 15) (v := ?_) (a' := ?_) #[Y,Y,Z,Z,Y,Y,Z,Z,Z,Y,Y,Z,Z,Y,Z,Z,Z,Z,Z,Z] rfl rfl (take_ofW HT_.out HW_.out (by kernel_rfl)) (fun _ _ _ h => h) (Or.inl ⟨by rfl, ?_⟩) hHeld ?_ ?_
            rotate_left
            ·rintro w' ⟨s0, s1, s2, s3, s4, s5⟩
             go_simp
             with_reducible rfl
            rotate_left
            ·simp only [Act.put, zl1, zl2, zl3, i64_w, i32_w]
             rfl
            refine take_ (i := 14) (N := some 19) (v := ?_) (a' := ?_) #[Y,Y,Z,Z,Y,Y,Z,Z,Z,Y,Y,Z,Z,Y,Y,Z,Z,Z,Z,Z] rfl rfl (take_ofW HT_.out HW_.out (by kernel_rfl)) (fun _ _ _ h => h) (Or.inl ⟨by rfl, ?_⟩) hHeld ?_ ?_
            rotate_left
            ·rintro w' ⟨s0, s1, s2, s3, s4, s5⟩
             go_simp
             with_reducible rfl
            rotate_left
            ·simp only [Act.put, zl1, zl2, zl3, i64_w, i32_w]
             rfl
            refine one_ (i := 2) (N := some 7) #[Y,Y,Y,Z,Y,Y,Z,Z,Z,Y,Y,Z,Z,Y,Y,Z,Z,Z,Z,Z] rfl rfl (one_of HT_.out (by kernel_rfl)) (by decide) (fun K hK => ?_)
            refine goes_ Tryd.func24 (by kernel_rfl) rfl #[.int .i64 a0_2] (by rfl) rfl rfl (by (try simp only [List.map_toArray, List.map_cons, List.map_nil]); first | done | rfl | (simp only [List.length_drop, List.length_take]; rfl)) ?_
            with_reducible refine (hallmarkref06_num.calls k a0_2 t204 _ A2.out).mono ?_
            rintro e w52 ⟨rfl, hb⟩
            refine ⟨_, rfl, ?_⟩
            replace BK203 := zm (blk_below (g := gb203) (o := .cells #[.int .i64 a0_0, .int .i64 a0_1, .int .i64 a0_2, .int .i64 a0_3, .slice A0_4 l0_4.length c0_4, .slice A0_5 l0_5.length c0_5] 57 (0, 0)) BK203.out hb)
            replace HB := zm (below_step (by repeat (first | (with_reducible first | exact HB.out | apply below_alloc | apply pw_below_drewN | apply below_drew1 | refine below_set ?_ GE203.out) | exact HB.out)) hb)
            (try clear hb)
            (try clear hb2)
            (try clear hk)
            (try clear hi)
            refine hK.out _ _ ⟨(blk_cell BK203.out 0).trans rfl, (blk_cell BK203.out 1).trans rfl, (blk_cell BK203.out 2).trans rfl, (blk_cell BK203.out 3).trans rfl, (blk_cell BK203.out 4).trans rfl, (blk_cell BK203.out 5).trans rfl⟩ (fun hHeld => ?_)
            clear hK K
            refine norm_ (a' := ?_) ?_ ?_
            rotate_left
            ·show Act.put _ (some 7) _ = _
             simp only [Act.put, zl1, zl2, zl3, i64_w, i32_w]
             rfl
            refine pure_ (i := 3) (N := some 8) (v := ?_) (a' := ?_) #[Y,Y,Y,Y,Y,Y,Z,Z,Z,Y,Y,Z,Z,Y,Y,Z,Z,Z,Z,Z] rfl rfl (any_of HT_.out (by kernel_rfl)) (fun _ _ _ h => h) (Or.inl ⟨by rfl, ?_⟩) ?_ ?_
            rotate_left
            ·intro w'
             go_simp
             with_reducible rfl
            rotate_left
            ·simp only [Act.put, zl1, zl2, zl3, i64_w, i32_w]
             rfl
            refine one_ (i := 6) (N := some 11) #[Y,Y,Y,Y,Y,Y,Y,Z,Z,Y,Y,Z,Z,Y,Y,Z,Z,Z,Z,Z] rfl rfl (one_of HT_.out (by kernel_rfl)) (by decide) (fun K hK => ?_)
            refine goes_ Tryd.func25 (by kernel_rfl) rfl #[.slice A0_4 l0_4.length c0_4, .int .i64 1] (by rfl) rfl rfl (by (try simp only [List.map_toArray, List.map_cons, List.map_nil]); first | done | rfl | (simp only [List.length_drop, List.length_take]; rfl)) ?_
            with_reducible refine (hallmarkref06_list.calls k _ _ l0_4 1 t205 _ ?side1 ?side2 A4.out).mono ?_
            (case side1 => repeat (first | exact (Kd.C_below HR0_4.out HB.out) | (with_reducible refine Kd.C_alloc ?_ _) | (with_reducible refine Kd.C_drewN ?_ _) | (with_reducible refine Kd.C_drew ?_)))
            (case side2 => exact HC0_4.out)
            rintro e w53 ⟨rfl, hb⟩
            refine ⟨_, rfl, ?_⟩
            replace BK203 := zm (blk_below (g := gb203) (o := .cells #[.int .i64 a0_0, .int .i64 a0_1, .int .i64 a0_2, .int .i64 a0_3, .slice A0_4 l0_4.length c0_4, .slice A0_5 l0_5.length c0_5] 57 (0, 0)) BK203.out hb)
            replace HB := zm (below_step (by repeat (first | (with_reducible first | exact HB.out | apply below_alloc | apply pw_below_drewN | apply below_drew1 | refine below_set ?_ GE203.out) | exact HB.out)) hb)
            (try clear hb)
            (try clear hb2)
            (try clear hk)
            (try clear hi)
            refine hK.out _ _ ⟨(blk_cell BK203.out 0).trans rfl, (blk_cell BK203.out 1).trans rfl, (blk_cell BK203.out 2).trans rfl, (blk_cell BK203.out 3).trans rfl, (blk_cell BK203.out 4).trans rfl, (blk_cell BK203.out 5).trans rfl⟩ (fun hHeld => ?_)
            clear hK K
            refine norm_ (a' := ?_) ?_ ?_
            rotate_left
            ·show Act.put _ (some 11) _ = _
             simp only [Act.put, zl1, zl2, zl3, i64_w, i32_w]
             rfl
            refine pure_ (i := 7) (N := some 12) (v := ?_) (a' := ?_) #[Y,Y,Y,Y,Y,Y,Y,Y,Z,Y,Y,Z,Z,Y,Y,Z,Z,Z,Z,Z] rfl rfl (any_of HT_.out (by kernel_rfl)) (fun _ _ _ h => h) (Or.inl ⟨by rfl, ?_⟩) ?_ ?_
            rotate_left
            ·intro w'
             go_simp
             with_reducible rfl
            rotate_left
            ·simp only [Act.put, zl1, zl2, zl3, i64_w, i32_w]
             rfl
            refine pure_ (i := 8) (N := some 13) (v := ?_) (a' := ?_) #[Y,Y,Y,Y,Y,Y,Y,Y,Y,Y,Y,Z,Z,Y,Y,Z,Z,Z,Z,Z] rfl rfl (any_of HT_.out (by kernel_rfl)) (fun _ _ _ h => h) (Or.inl ⟨by rfl, ?_⟩) ?_ ?_
            rotate_left
            ·intro w'
             go_simp
             with_reducible rfl
            rotate_left
            ·simp only [Act.put, zl1, zl2, zl3, i64_w, i32_w]
             rfl
            refine one_ (i := 11) (N := some 16) #[Y,Y,Y,Y,Y,Y,Y,Y,Y,Y,Y,Y,Z,Y,Y,Z,Z,Z,Z,Z] rfl rfl (one_of HT_.out (by kernel_rfl)) (by decide) (fun K hK => ?_)
            refine goes_ Tryd.func24 (by kernel_rfl) rfl #[.int .i64 a0_3] (by rfl) rfl rfl (by (try simp only [List.map_toArray, List.map_cons, List.map_nil]); first | done | rfl | (simp only [List.length_drop, List.length_take]; rfl)) ?_
            with_reducible refine (hallmarkref06_num.calls k a0_3 t206 _ A7.out).mono ?_
            rintro e w54 ⟨rfl, hb⟩
            refine ⟨_, rfl, ?_⟩
            replace BK203 := zm (blk_below (g := gb203) (o := .cells #[.int .i64 a0_0, .int .i64 a0_1, .int .i64 a0_2, .int .i64 a0_3, .slice A0_4 l0_4.length c0_4, .slice A0_5 l0_5.length c0_5] 57 (0, 0)) BK203.out hb)
            replace HB := zm (below_step (by repeat (first | (with_reducible first | exact HB.out | apply below_alloc | apply pw_below_drewN | apply below_drew1 | refine below_set ?_ GE203.out) | exact HB.out)) hb)
            (try clear hb)
            (try clear hb2)
            (try clear hk)
            (try clear hi)
            refine hK.out _ _ ⟨(blk_cell BK203.out 0).trans rfl, (blk_cell BK203.out 1).trans rfl, (blk_cell BK203.out 2).trans rfl, (blk_cell BK203.out 3).trans rfl, (blk_cell BK203.out 4).trans rfl, (blk_cell BK203.out 5).trans rfl⟩ (fun hHeld => ?_)
            clear hK K
            refine norm_ (a' := ?_) ?_ ?_
            rotate_left
            ·show Act.put _ (some 16) _ = _
             simp only [Act.put, zl1, zl2, zl3, i64_w, i32_w]
             rfl
            refine pure_ (i := 12) (N := some 17) (v := ?_) (a' := ?_) #[Y,Y,Y,Y,Y,Y,Y,Y,Y,Y,Y,Y,Y,Y,Y,Z,Z,Z,Z,Z] rfl rfl (any_of HT_.out (by kernel_rfl)) (fun _ _ _ h => h) (Or.inl ⟨by rfl, ?_⟩) ?_ ?_
            rotate_left
            ·intro w'
             go_simp
             with_reducible rfl
            rotate_left
            ·simp only [Act.put, zl1, zl2, zl3, i64_w, i32_w]
             rfl
            refine one_ (i := 15) (N := some 20) #[Y,Y,Y,Y,Y,Y,Y,Y,Y,Y,Y,Y,Y,Y,Y,Y,Z,Z,Z,Z] rfl rfl (one_of HT_.out (by kernel_rfl)) (by decide) (fun K hK => ?_)
            refine goes_ Tryd.func25 (by kernel_rfl) rfl #[.slice A0_5 l0_5.length c0_5, .int .i64 1] (by rfl) rfl rfl (by (try simp only [List.map_toArray, List.map_cons, List.map_nil]); first | done | rfl | (simp only [List.length_drop, List.length_take]; rfl)) ?_
            with_reducible refine (hallmarkref06_list.calls k _ _ l0_5 1 t207 _ ?side1 ?side2 A9.out).mono ?_
            (case side1 => repeat (first | exact (Kd.C_below HR0_5.out HB.out) | (with_reducible refine Kd.C_alloc ?_ _) | (with_reducible refine Kd.C_drewN ?_ _) | (with_reducible refine Kd.C_drew ?_)))
            (case side2 => exact HC0_5.out)
            rintro e w55 ⟨rfl, hb⟩
            refine ⟨_, rfl, ?_⟩
            replace BK203 := zm (blk_below (g := gb203) (o := .cells #[.int .i64 a0_0, .int .i64 a0_1, .int .i64 a0_2, .int .i64 a0_3, .slice A0_4 l0_4.length c0_4, .slice A0_5 l0_5.length c0_5] 57 (0, 0)) BK203.out hb)
            replace HB := zm (below_step (by repeat (first | (with_reducible first | exact HB.out | apply below_alloc | apply pw_below_drewN | apply below_drew1 | refine below_set ?_ GE203.out) | exact HB.out)) hb)
            (try clear hb)
            (try clear hb2)
            (try clear hk)
            (try clear hi)
            refine hK.out _ _ ⟨(blk_cell BK203.out 0).trans rfl, (blk_cell BK203.out 1).trans rfl, (blk_cell BK203.out 2).trans rfl, (blk_cell BK203.out 3).trans rfl, (blk_cell BK203.out 4).trans rfl, (blk_cell BK203.out 5).trans rfl⟩ (fun hHeld => ?_)
            clear hK K
            refine norm_ (a' := ?_) ?_ ?_
            rotate_left
            ·show Act.put _ (some 20) _ = _
             simp only [Act.put, zl1, zl2, zl3, i64_w, i32_w]
             rfl
            refine pure_ (i := 16) (N := some 21) (v := ?_) (a' := ?_) #[Y,Y,Y,Y,Y,Y,Y,Y,Y,Y,Y,Y,Y,Y,Y,Y,Y,Z,Z,Z] rfl rfl (any_of HT_.out (by kernel_rfl)) (fun _ _ _ h => h) (Or.inl ⟨by rfl, ?_⟩) ?_ ?_
            rotate_left
            ·intro w'
             go_simp
             with_reducible rfl
            rotate_left
            ·simp only [Act.put, zl1, zl2, zl3, i64_w, i32_w]
             rfl
            refine pure_ (i := 17) (N := some 22) (v := ?_) (a' := ?_) #[Y,Y,Y,Y,Y,Y,Y,Y,Y,Y,Y,Y,Y,Y,Y,Y,Y,Y,Z,Z] rfl rfl (any_of HT_.out (by kernel_rfl)) (fun _ _ _ h => h) (Or.inl ⟨by rfl, ?_⟩) ?_ ?_
            rotate_left
            ·intro w'
             go_simp
             with_reducible rfl
            rotate_left
            ·simp only [Act.put, zl1, zl2, zl3, i64_w, i32_w]
             rfl
            refine pure_ (i := 18) (N := some 3) (v := ?_) (a' := ?_) #[Y,Y,Y,Y,Y,Y,Y,Y,Y,Y,Y,Y,Y,Y,Y,Y,Y,Y,Y,Z] rfl rfl (any_of HT_.out (by kernel_rfl)) (fun _ _ _ h => h) (Or.inl ⟨by rfl, ?_⟩) ?_ ?_
            rotate_left
            ·intro w'
             go_simp
             with_reducible rfl
            rotate_left
            ·simp only [Act.put, zl1, zl2, zl3, i64_w, i32_w]
             rfl
            refine pure_ (i := 19) (N := some 4) (v := ?_) (a' := ?_) #[Y,Y,Y,Y,Y,Y,Y,Y,Y,Y,Y,Y,Y,Y,Y,Y,Y,Y,Y,Y] rfl rfl (any_of HT_.out (by kernel_rfl)) (fun _ _ _ h => h) (Or.inl ⟨by rfl, ?_⟩) ?_ ?_
            rotate_left
            ·intro w'
             go_simp
             with_reducible rfl
            rotate_left
            ·simp only [Act.put, zl1, zl2, zl3, i64_w, i32_w]
             rfl
            refine done_ (done_of HT_.out (by kernel_rfl)) ?_
            have hcz56_0 : w55.cell? ⟨gb203, 0, none⟩ = some (.int .i64 a0_0) := (blk_cell BK203.out 0).trans rfl
            have hcz56_1 : w55.cell? ⟨gb203, 1, none⟩ = some (.int .i64 a0_1) := (blk_cell BK203.out 1).trans rfl
            have hcz56_2 : w55.cell? ⟨gb203, 2, none⟩ = some (.int .i64 a0_2) := (blk_cell BK203.out 2).trans rfl
            have hcz56_3 : w55.cell? ⟨gb203, 3, none⟩ = some (.int .i64 a0_3) := (blk_cell BK203.out 3).trans rfl
            have hcz56_4 : w55.cell? ⟨gb203, 4, none⟩ = some (.slice A0_4 l0_4.length c0_4) := (blk_cell BK203.out 4).trans rfl
            have hcz56_5 : w55.cell? ⟨gb203, 5, none⟩ = some (.slice A0_5 l0_5.length c0_5) := (blk_cell BK203.out 5).trans rfl
            have hfz56_0 := blk_frozen BK203.out 0
            have hfz56_1 := blk_frozen BK203.out 1
            have hfz56_2 := blk_frozen BK203.out 2
            have hfz56_3 := blk_frozen BK203.out 3
            have hfz56_4 := blk_frozen BK203.out 4
            have hfz56_5 := blk_frozen BK203.out 5
            try go_wp2_with (first | ((with_reducible refine gate_callee (f := 24) rfl ?_); refine goesL_ (some 51) rfl rfl Tryd.func24 (by kernel_rfl) rfl #[.int .i64 a0_1] rfl (by (try simp only [List.map_toArray, List.map_cons, List.map_nil]); first | done | rfl | (simp only [List.length_drop, List.length_take]; rfl)) ?_; (with_reducible refine (hallmarkref06_num.calls k a0_1 t210 _ A48.out).mono ?_); rintro e w57 ⟨rfl, hb⟩; refine ⟨_, rfl, ?_⟩; have n0_ := zm (blk_below (g := gb203) (o := .cells #[.int .i64 a0_0, .int .i64 a0_1, .int .i64 a0_2, .int .i64 a0_3, .slice A0_4 l0_4.length c0_4, .slice A0_5 l0_5.length c0_5] 57 (0, 0)) (by (with_reducible repeat (first | refine blk_drewN ?_ _ | refine blk_drew ?_ | refine blk_alloc ?_ _)); exact BK203.out) hb); have n1_ := zm (below_step (by repeat (first | (with_reducible first | exact HB.out | apply below_alloc | apply pw_below_drewN | apply below_drew1 | refine below_set ?_ GE203.out) | exact HB.out)) hb); clear BK203; clear HB; have BK203 := n0_; have HB := n1_; clear n0_ n1_; (try clear hb); (try clear hb2); (try clear hk); (try clear hi)))
            go_ret
            exact ⟨by first | rfl | (simp [errW_none, errW_some] <;> rfl) | (simp [*, errW_none, errW_some] <;> rfl), by repeat (first | (with_reducible first | exact HB.out | apply below_alloc | apply pw_below_drewN | apply below_drew1 | refine below_set ?_ GE203.out) | exact HB.out)⟩
           ·rw [if_neg c49] at H
            exact absurd H (by simp)
          ·rw [if_neg c47] at H
           have c47b0 : (a0_0 == 3) = false := beq_eq_false_iff_ne.mpr c47
           have c47b1 : (a0_0 != 3) = true := bne_iff_ne.mpr c47
           obtain rfl := Option.some.inj H
           go_enter Tryd.func37, Tryd.ntmps37
           try go_wp2_with (first | ((with_reducible refine gate_dst (N := 1) rfl ?_); refine box_event ?hg (N := 1) ?hd (cs := #[.int .i64 a0_0, .int .i64 a0_1, .int .i64 a0_2, .int .i64 a0_3, .slice A0_4 l0_4.length c0_4, .slice A0_5 l0_5.length c0_5]) (t := 57) ?hr ?_; (case hd => rfl); (case hg => rfl); (case hr => first | (go_simp; done) | (go_simp; rfl)); intro gb203 hg w58 hbox hb; have n0_ := zm (below_step (by repeat (first | (with_reducible first | exact HB.out | apply below_alloc | apply pw_below_drewN | apply below_drew1) | exact HB.out)) hb); have n1_ := zm (hbox); have n2_ := zm ((by rw [hg]; exact (below_size (by repeat (first | (with_reducible first | exact HB.out | apply below_alloc | apply pw_below_drewN | apply below_drew1) | exact HB.out))) : w.heap.size ≤ gb203)); have n3_ := zm ((by rw [hg]; exact (below_size (by repeat (first | (with_reducible first | exact HB.out | apply below_alloc | apply pw_below_drewN | apply below_drew1) | exact HB.out))) : w.heap.size ≤ gb203)); clear HB; have HB := n0_; have BK203 := n1_; have GW203 := n2_; have GE203 := n3_; clear n0_ n1_ n2_ n3_; clear hb hbox hg))
           replace BK203 := zm (blk_drew BK203.out)
           replace HB := zm (below_drew1 HB.out)
           refine start_ (n := 20) (S := fun w' => w'.cell? ⟨gb203, 0, none⟩ = some (.int .i64 a0_0) ∧ w'.cell? ⟨gb203, 1, none⟩ = some (.int .i64 a0_1) ∧ w'.cell? ⟨gb203, 2, none⟩ = some (.int .i64 a0_2) ∧ w'.cell? ⟨gb203, 3, none⟩ = some (.int .i64 a0_3) ∧ w'.cell? ⟨gb203, 4, none⟩ = some (.slice A0_4 l0_4.length c0_4) ∧ w'.cell? ⟨gb203, 5, none⟩ = some (.slice A0_5 l0_5.length c0_5)) (ds := []) #[Z,Z,Z,Z,Z,Z,Z,Z,Z,Z,Z,Z,Z,Z,Z,Z,Z,Z,Z,Z] (by kernel_rfl) rfl rfl ⟨(blk_cell BK203.out 0).trans rfl, (blk_cell BK203.out 1).trans rfl, (blk_cell BK203.out 2).trans rfl, (blk_cell BK203.out 3).trans rfl, (blk_cell BK203.out 4).trans rfl, (blk_cell BK203.out 5).trans rfl⟩ (fun hHeld => ?_); refine with_tabW hallmarkref06_end.tab1 hallmarkref06_end.bits1 (fun HT_ HW_ => ?_)
           generalize w58.drew = w59 at BK203 HB hHeld ⊢
           refine pure_ (i := 0) (N := some 5) (v := ?_) (a' := ?_) #[Y,Z,Z,Z,Z,Z,Z,Z,Z,Z,Z,Z,Z,Z,Z,Z,Z,Z,Z,Z] rfl rfl (any_of HT_.out (by kernel_rfl)) (fun _ _ _ h => h) (Or.inl ⟨by rfl, ?_⟩) ?_ ?_
           rotate_left
           ·intro w'
            go_simp
            with_reducible rfl
           rotate_left
           ·simp only [Act.put, zl1, zl2, zl3, i64_w, i32_w]
            rfl
           refine pure_ (i := 4) (N := some 9) (v := ?_) (a' := ?_) #[Y,Z,Z,Z,Y,Z,Z,Z,Z,Z,Z,Z,Z,Z,Z,Z,Z,Z,Z,Z] rfl rfl (any_of HT_.out (by kernel_rfl)) (fun _ _ _ h => h) (Or.inl ⟨by rfl, ?_⟩) ?_ ?_
           rotate_left
           ·intro w'
            go_simp
            with_reducible rfl
           rotate_left
           ·simp only [Act.put, zl1, zl2, zl3, i64_w, i32_w]
            rfl
           refine pure_ (i := 9) (N := some 14) (v := ?_) (a' := ?_) #[Y,Z,Z,Z,Y,Z,Z,Z,Z,Y,Z,Z,Z,Z,Z,Z,Z,Z,Z,Z] rfl rfl (any_of HT_.out (by kernel_rfl)) (fun _ _ _ h => h) (Or.inl ⟨by rfl, ?_⟩) ?_ ?_
           rotate_left
           ·intro w'
            go_simp
            with_reducible rfl
           rotate_left
           ·simp only [Act.put, zl1, zl2, zl3, i64_w, i32_w]
            rfl
           refine pure_ (i := 13) (N := some 18) (v := ?_) (a' := ?_) #[Y,Z,Z,Z,Y,Z,Z,Z,Z,Y,Z,Z,Z,Y,Z,Z,Z,Z,Z,Z] rfl rfl (any_of HT_.out (by kernel_rfl)) (fun _ _ _ h => h) (Or.inl ⟨by rfl, ?_⟩) ?_ ?_
           rotate_left
           ·intro w'
            go_simp
            with_reducible rfl
           rotate_left
           ·simp only [Act.put, zl1, zl2, zl3, i64_w, i32_w]
            rfl
           refine take_ (i := 1) (N := some 6) (v := ?_) (a' := ?_) #[Y,Y,Z,Z,Y,Z,Z,Z,Z,Y,Z,Z,Z,Y,Z,Z,Z,Z,Z,Z] rfl rfl (take_ofW HT_.out HW_.out (by kernel_rfl)) (fun _ _ _ h => h) (Or.inl ⟨by rfl, ?_⟩) hHeld ?_ ?_
           rotate_left
           ·rintro w' ⟨s0, s1, s2, s3, s4, s5⟩
            go_simp
            with_reducible rfl
           rotate_left
           ·simp only [Act.put, zl1, zl2, zl3, i64_w, i32_w]
            rfl
           refine take_ (i := 5) (N := some 10) (v := ?_) (a' := ?_) #[Y,Y,Z,Z,Y,Y,Z,Z,Z,Y,Z,Z,Z,Y,Z,Z,Z,Z,Z,Z] rfl rfl (take_ofW HT_.out HW_.out (by kernel_rfl)) (fun _ _ _ h => h) (Or.inl ⟨by rfl, ?_⟩) hHeld ?_ ?_
           rotate_left
           ·rintro w' ⟨s0, s1, s2, s3, s4, s5⟩
            go_simp
            with_reducible rfl
           rotate_left
           ·simp only [Act.put, zl1, zl2, zl3, i64_w, i32_w]
            rfl
           refine take_ (i := 10) (N := some 15) (v := ?_) (a' := ?_) #[Y,Y,Z,Z,Y,Y,Z,Z,Z,Y,Y,Z,Z,Y,Z,Z,Z,Z,Z,Z] rfl rfl (take_ofW HT_.out HW_.out (by kernel_rfl)) (fun _ _ _ h => h) (Or.inl ⟨by rfl, ?_⟩) hHeld ?_ ?_
           rotate_left
           ·rintro w' ⟨s0, s1, s2, s3, s4, s5⟩
            go_simp
            with_reducible rfl
           rotate_left
           ·simp only [Act.put, zl1, zl2, zl3, i64_w, i32_w]
            rfl
           refine take_ (i := 14) (N := some 19) (v := ?_) (a' := ?_) #[Y,Y,Z,Z,Y,Y,Z,Z,Z,Y,Y,Z,Z,Y,Y,Z,Z,Z,Z,Z] rfl rfl (take_ofW HT_.out HW_.out (by kernel_rfl)) (fun _ _ _ h => h) (Or.inl ⟨by rfl, ?_⟩) hHeld ?_ ?_
           rotate_left
           ·rintro w' ⟨s0, s1, s2, s3, s4, s5⟩
            go_simp
            with_reducible rfl
           rotate_left
           ·simp only [Act.put, zl1, zl2, zl3, i64_w, i32_w]
            rfl
           refine one_ (i := 2) (N := some 7) #[Y,Y,Y,Z,Y,Y,Z,Z,Z,Y,Y,Z,Z,Y,Y,Z,Z,Z,Z,Z] rfl rfl (one_of HT_.out (by kernel_rfl)) (by decide) (fun K hK => ?_)
           refine goes_ Tryd.func24 (by kernel_rfl) rfl #[.int .i64 a0_2] (by rfl) rfl rfl (by (try simp only [List.map_toArray, List.map_cons, List.map_nil]); first | done | rfl | (simp only [List.length_drop, List.length_take]; rfl)) ?_
           with_reducible refine (hallmarkref06_num.calls k a0_2 t204 _ A2.out).mono ?_
           rintro e w60 ⟨rfl, hb⟩
           refine ⟨_, rfl, ?_⟩
           replace BK203 := zm (blk_below (g := gb203) (o := .cells #[.int .i64 a0_0, .int .i64 a0_1, .int .i64 a0_2, .int .i64 a0_3, .slice A0_4 l0_4.length c0_4, .slice A0_5 l0_5.length c0_5] 57 (0, 0)) BK203.out hb)
           replace HB := zm (below_step (by repeat (first | (with_reducible first | exact HB.out | apply below_alloc | apply pw_below_drewN | apply below_drew1 | refine below_set ?_ GE203.out) | exact HB.out)) hb)
           (try clear hb)
           (try clear hb2)
           (try clear hk)
           (try clear hi)
           refine hK.out _ _ ⟨(blk_cell BK203.out 0).trans rfl, (blk_cell BK203.out 1).trans rfl, (blk_cell BK203.out 2).trans rfl, (blk_cell BK203.out 3).trans rfl, (blk_cell BK203.out 4).trans rfl, (blk_cell BK203.out 5).trans rfl⟩ (fun hHeld => ?_)
           clear hK K
           refine norm_ (a' := ?_) ?_ ?_
           rotate_left
           ·show Act.put _ (some 7) _ = _
            simp only [Act.put, zl1, zl2, zl3, i64_w, i32_w]
            rfl
           refine pure_ (i := 3) (N := some 8) (v := ?_) (a' := ?_) #[Y,Y,Y,Y,Y,Y,Z,Z,Z,Y,Y,Z,Z,Y,Y,Z,Z,Z,Z,Z] rfl rfl (any_of HT_.out (by kernel_rfl)) (fun _ _ _ h => h) (Or.inl ⟨by rfl, ?_⟩) ?_ ?_
           rotate_left
           ·intro w'
            go_simp
            with_reducible rfl
           rotate_left
           ·simp only [Act.put, zl1, zl2, zl3, i64_w, i32_w]
            rfl
           refine one_ (i := 6) (N := some 11) #[Y,Y,Y,Y,Y,Y,Y,Z,Z,Y,Y,Z,Z,Y,Y,Z,Z,Z,Z,Z] rfl rfl (one_of HT_.out (by kernel_rfl)) (by decide) (fun K hK => ?_)
           refine goes_ Tryd.func25 (by kernel_rfl) rfl #[.slice A0_4 l0_4.length c0_4, .int .i64 1] (by rfl) rfl rfl (by (try simp only [List.map_toArray, List.map_cons, List.map_nil]); first | done | rfl | (simp only [List.length_drop, List.length_take]; rfl)) ?_
           with_reducible refine (hallmarkref06_list.calls k _ _ l0_4 1 t205 _ ?side1 ?side2 A4.out).mono ?_
           (case side1 => repeat (first | exact (Kd.C_below HR0_4.out HB.out) | (with_reducible refine Kd.C_alloc ?_ _) | (with_reducible refine Kd.C_drewN ?_ _) | (with_reducible refine Kd.C_drew ?_)))
           (case side2 => exact HC0_4.out)
           rintro e w61 ⟨rfl, hb⟩
           refine ⟨_, rfl, ?_⟩
           replace BK203 := zm (blk_below (g := gb203) (o := .cells #[.int .i64 a0_0, .int .i64 a0_1, .int .i64 a0_2, .int .i64 a0_3, .slice A0_4 l0_4.length c0_4, .slice A0_5 l0_5.length c0_5] 57 (0, 0)) BK203.out hb)
           replace HB := zm (below_step (by repeat (first | (with_reducible first | exact HB.out | apply below_alloc | apply pw_below_drewN | apply below_drew1 | refine below_set ?_ GE203.out) | exact HB.out)) hb)
           (try clear hb)
           (try clear hb2)
           (try clear hk)
           (try clear hi)
           refine hK.out _ _ ⟨(blk_cell BK203.out 0).trans rfl, (blk_cell BK203.out 1).trans rfl, (blk_cell BK203.out 2).trans rfl, (blk_cell BK203.out 3).trans rfl, (blk_cell BK203.out 4).trans rfl, (blk_cell BK203.out 5).trans rfl⟩ (fun hHeld => ?_)
           clear hK K
           refine norm_ (a' := ?_) ?_ ?_
           rotate_left
           ·show Act.put _ (some 11) _ = _
            simp only [Act.put, zl1, zl2, zl3, i64_w, i32_w]
            rfl
           refine pure_ (i := 7) (N := some 12) (v := ?_) (a' := ?_) #[Y,Y,Y,Y,Y,Y,Y,Y,Z,Y,Y,Z,Z,Y,Y,Z,Z,Z,Z,Z] rfl rfl (any_of HT_.out (by kernel_rfl)) (fun _ _ _ h => h) (Or.inl ⟨by rfl, ?_⟩) ?_ ?_
           rotate_left
           ·intro w'
            go_simp
            with_reducible rfl
           rotate_left
           ·simp only [Act.put, zl1, zl2, zl3, i64_w, i32_w]
            rfl
           refine pure_ (i := 8) (N := some 13) (v := ?_) (a' := ?_) #[Y,Y,Y,Y,Y,Y,Y,Y,Y,Y,Y,Z,Z,Y,Y,Z,Z,Z,Z,Z] rfl rfl (any_of HT_.out (by kernel_rfl)) (fun _ _ _ h => h) (Or.inl ⟨by rfl, ?_⟩) ?_ ?_
           rotate_left
           ·intro w'
            go_simp
            with_reducible rfl
           rotate_left
           ·simp only [Act.put, zl1, zl2, zl3, i64_w, i32_w]
            rfl
           refine one_ (i := 11) (N := some 16) #[Y,Y,Y,Y,Y,Y,Y,Y,Y,Y,Y,Y,Z,Y,Y,Z,Z,Z,Z,Z] rfl rfl (one_of HT_.out (by kernel_rfl)) (by decide) (fun K hK => ?_)
           refine goes_ Tryd.func24 (by kernel_rfl) rfl #[.int .i64 a0_3] (by rfl) rfl rfl (by (try simp only [List.map_toArray, List.map_cons, List.map_nil]); first | done | rfl | (simp only [List.length_drop, List.length_take]; rfl)) ?_
           with_reducible refine (hallmarkref06_num.calls k a0_3 t206 _ A7.out).mono ?_
           rintro e w62 ⟨rfl, hb⟩
           refine ⟨_, rfl, ?_⟩
           replace BK203 := zm (blk_below (g := gb203) (o := .cells #[.int .i64 a0_0, .int .i64 a0_1, .int .i64 a0_2, .int .i64 a0_3, .slice A0_4 l0_4.length c0_4, .slice A0_5 l0_5.length c0_5] 57 (0, 0)) BK203.out hb)
           replace HB := zm (below_step (by repeat (first | (with_reducible first | exact HB.out | apply below_alloc | apply pw_below_drewN | apply below_drew1 | refine below_set ?_ GE203.out) | exact HB.out)) hb)
           (try clear hb)
           (try clear hb2)
           (try clear hk)
           (try clear hi)
           refine hK.out _ _ ⟨(blk_cell BK203.out 0).trans rfl, (blk_cell BK203.out 1).trans rfl, (blk_cell BK203.out 2).trans rfl, (blk_cell BK203.out 3).trans rfl, (blk_cell BK203.out 4).trans rfl, (blk_cell BK203.out 5).trans rfl⟩ (fun hHeld => ?_)
           clear hK K
           refine norm_ (a' := ?_) ?_ ?_
           rotate_left
           ·show Act.put _ (some 16) _ = _
            simp only [Act.put, zl1, zl2, zl3, i64_w, i32_w]
            rfl
           refine pure_ (i := 12) (N := some 17) (v := ?_) (a' := ?_) #[Y,Y,Y,Y,Y,Y,Y,Y,Y,Y,Y,Y,Y,Y,Y,Z,Z,Z,Z,Z] rfl rfl (any_of HT_.out (by kernel_rfl)) (fun _ _ _ h => h) (Or.inl ⟨by rfl, ?_⟩) ?_ ?_
           rotate_left
           ·intro w'
            go_simp
            with_reducible rfl
           rotate_left
           ·simp only [Act.put, zl1, zl2, zl3, i64_w, i32_w]
            rfl
           refine one_ (i := 15) (N := some 20) #[Y,Y,Y,Y,Y,Y,Y,Y,Y,Y,Y,Y,Y,Y,Y,Y,Z,Z,Z,Z] rfl rfl (one_of HT_.out (by kernel_rfl)) (by decide) (fun K hK => ?_)
           refine goes_ Tryd.func25 (by kernel_rfl) rfl #[.slice A0_5 l0_5.length c0_5, .int .i64 1] (by rfl) rfl rfl (by (try simp only [List.map_toArray, List.map_cons, List.map_nil]); first | done | rfl | (simp only [List.length_drop, List.length_take]; rfl)) ?_
           with_reducible refine (hallmarkref06_list.calls k _ _ l0_5 1 t207 _ ?side1 ?side2 A9.out).mono ?_
           (case side1 => repeat (first | exact (Kd.C_below HR0_5.out HB.out) | (with_reducible refine Kd.C_alloc ?_ _) | (with_reducible refine Kd.C_drewN ?_ _) | (with_reducible refine Kd.C_drew ?_)))
           (case side2 => exact HC0_5.out)
           rintro e w63 ⟨rfl, hb⟩
           refine ⟨_, rfl, ?_⟩
           replace BK203 := zm (blk_below (g := gb203) (o := .cells #[.int .i64 a0_0, .int .i64 a0_1, .int .i64 a0_2, .int .i64 a0_3, .slice A0_4 l0_4.length c0_4, .slice A0_5 l0_5.length c0_5] 57 (0, 0)) BK203.out hb)
           replace HB := zm (below_step (by repeat (first | (with_reducible first | exact HB.out | apply below_alloc | apply pw_below_drewN | apply below_drew1 | refine below_set ?_ GE203.out) | exact HB.out)) hb)
           (try clear hb)
           (try clear hb2)
           (try clear hk)
           (try clear hi)
           refine hK.out _ _ ⟨(blk_cell BK203.out 0).trans rfl, (blk_cell BK203.out 1).trans rfl, (blk_cell BK203.out 2).trans rfl, (blk_cell BK203.out 3).trans rfl, (blk_cell BK203.out 4).trans rfl, (blk_cell BK203.out 5).trans rfl⟩ (fun hHeld => ?_)
           clear hK K
           refine norm_ (a' := ?_) ?_ ?_
           rotate_left
           ·show Act.put _ (some 20) _ = _
            simp only [Act.put, zl1, zl2, zl3, i64_w, i32_w]
            rfl
           refine pure_ (i := 16) (N := some 21) (v := ?_) (a' := ?_) #[Y,Y,Y,Y,Y,Y,Y,Y,Y,Y,Y,Y,Y,Y,Y,Y,Y,Z,Z,Z] rfl rfl (any_of HT_.out (by kernel_rfl)) (fun _ _ _ h => h) (Or.inl ⟨by rfl, ?_⟩) ?_ ?_
           rotate_left
           ·intro w'
            go_simp
            with_reducible rfl
           rotate_left
           ·simp only [Act.put, zl1, zl2, zl3, i64_w, i32_w]
            rfl
           refine pure_ (i := 17) (N := some 22) (v := ?_) (a' := ?_) #[Y,Y,Y,Y,Y,Y,Y,Y,Y,Y,Y,Y,Y,Y,Y,Y,Y,Y,Z,Z] rfl rfl (any_of HT_.out (by kernel_rfl)) (fun _ _ _ h => h) (Or.inl ⟨by rfl, ?_⟩) ?_ ?_
           rotate_left
           ·intro w'
            go_simp
            with_reducible rfl
           rotate_left
           ·simp only [Act.put, zl1, zl2, zl3, i64_w, i32_w]
            rfl
           refine pure_ (i := 18) (N := some 3) (v := ?_) (a' := ?_) #[Y,Y,Y,Y,Y,Y,Y,Y,Y,Y,Y,Y,Y,Y,Y,Y,Y,Y,Y,Z] rfl rfl (any_of HT_.out (by kernel_rfl)) (fun _ _ _ h => h) (Or.inl ⟨by rfl, ?_⟩) ?_ ?_
           rotate_left
           ·intro w'
            go_simp
            with_reducible rfl
           rotate_left
           ·simp only [Act.put, zl1, zl2, zl3, i64_w, i32_w]
            rfl
           refine pure_ (i := 19) (N := some 4) (v := ?_) (a' := ?_) #[Y,Y,Y,Y,Y,Y,Y,Y,Y,Y,Y,Y,Y,Y,Y,Y,Y,Y,Y,Y] rfl rfl (any_of HT_.out (by kernel_rfl)) (fun _ _ _ h => h) (Or.inl ⟨by rfl, ?_⟩) ?_ ?_
           rotate_left
           ·intro w'
            go_simp
            with_reducible rfl
           rotate_left
           ·simp only [Act.put, zl1, zl2, zl3, i64_w, i32_w]
            rfl
           refine done_ (done_of HT_.out (by kernel_rfl)) ?_
           have hcz64_0 : w63.cell? ⟨gb203, 0, none⟩ = some (.int .i64 a0_0) := (blk_cell BK203.out 0).trans rfl
           have hcz64_1 : w63.cell? ⟨gb203, 1, none⟩ = some (.int .i64 a0_1) := (blk_cell BK203.out 1).trans rfl
           have hcz64_2 : w63.cell? ⟨gb203, 2, none⟩ = some (.int .i64 a0_2) := (blk_cell BK203.out 2).trans rfl
           have hcz64_3 : w63.cell? ⟨gb203, 3, none⟩ = some (.int .i64 a0_3) := (blk_cell BK203.out 3).trans rfl
           have hcz64_4 : w63.cell? ⟨gb203, 4, none⟩ = some (.slice A0_4 l0_4.length c0_4) := (blk_cell BK203.out 4).trans rfl
           have hcz64_5 : w63.cell? ⟨gb203, 5, none⟩ = some (.slice A0_5 l0_5.length c0_5) := (blk_cell BK203.out 5).trans rfl
           have hfz64_0 := blk_frozen BK203.out 0
           have hfz64_1 := blk_frozen BK203.out 1
           have hfz64_2 := blk_frozen BK203.out 2
           have hfz64_3 := blk_frozen BK203.out 3
           have hfz64_4 := blk_frozen BK203.out 4
           have hfz64_5 := blk_frozen BK203.out 5
           try go_wp2
           go_ret
           exact ⟨by first | rfl | (simp [errW_none, errW_some] <;> rfl) | (simp [*, errW_none, errW_some] <;> rfl), by repeat (first | (with_reducible first | exact HB.out | apply below_alloc | apply pw_below_drewN | apply below_drew1 | refine below_set ?_ GE203.out) | exact HB.out)⟩
      ·rw [if_neg c11] at H
       exact absurd H (by simp)
     ·rw [if_neg c10] at H
      exact absurd H (by simp)
    ·rw [if_neg c8] at H
     exact absurd H (by simp)
   ·rw [if_neg c6] at H
    exact absurd H (by simp)
  ·rw [if_neg c5] at H
   exact absurd H (by simp)
 ·rw [if_neg c3] at H
  exact absurd H (by simp)

end Go.Proofs.YtojmepkhbebllaaDoor.PShowProgs
