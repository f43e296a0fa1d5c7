-- written by wip/print2.py
import Derived.Test.YtbjdiaefchcbjaaDoorPKindResultsx0
import Derived.Test.YtbjdiaefchcbjaaDoorPKindResultsx5
import Derived.Test.YtbjdiaefchcbjaaDoorPKindResultsx6
namespace Go.Proofs.YtbjdiaefchcbjaaDoor.PKindResults
open Go.RowKit Go.Proofs.YtbjdiaefchcbjaaDoorW.PrintWords Go.Proofs.YtbjdiaefchcbjaaDoorW.PrintLast Go.Proofs.YtbjdiaefchcbjaaDoorW.PrintMore
attribute [local go_sem] max2_int min2_int max_two min_two max_three min_three max_four min_four   -- for this text's walks alone
set_option linter.unusedVariables false
set_option linter.unusedSimpArgs false

/-! ### kind_result: function 34 -/
abbrev Y : Bool := true
abbrev Z : Bool := false
theorem zm {p : Prop} (h : p) : Aside0 p := ⟨h⟩
theorem zh {w w' : World} {a : Addr} {v : Value} (hb : Below w.heap.size w w') (h : w.cell? a = some v) : w'.cell? a = some v := (hb.cell (World.block_lt_of_cell? _ _ h)).trans h
theorem zl1 {α : Type} (l : List α) (i : Nat) (a : α) : l.toArray.setIfInBounds i a = (l.set i a).toArray := List.setIfInBounds_toArray ..
theorem zl2 {α : Type} (x : α) (l : List α) (a : α) : (x :: l).set 0 a = a :: l := rfl
theorem zl3 {α : Type} (x : α) (l : List α) (n : Nat) (a : α) : (x :: l).set (n + 1) a = x :: l.set n a := rfl
mutual
def kind_result.j0 : Nat → List Int → Bool → List (S73) → List (S77) → List (S66) → Int → Int → Int → Int → Int → ByteArray → List Int → Bool → Option (Int × Bool)
 | 0, _, _, _, _, _, _, _, _, _, _, _, _, _ => none
 | k + 1, x2, x95, x1000, x1001, x1002, x139000, x139001, x139002, x139003, x139004, x139005, x139006, x139007 => if x95 = true then (some (0, false)) else (if 0 ≤ x139004 then (if x139004 < (x1002.length : Int) then (if 0 < (((rd_T66 x1002 x139004).f1).length : Int) then ((slices_Equal_int_int.f k x2 ((rd_T71 ((rd_T66 x1002 x139004).f1) 0).f0)).bind fun t179 => (some ((rd_T66 x1002 x139004).f0, t179))) else (none)) else (none)) else (none))
def kind_result.j1 : Nat → List Int → Bool → List (S73) → List (S77) → List (S66) → Int → Int → Int → Int → Int → ByteArray → List Int → Bool → Option (Int × Bool)
 | 0, _, _, _, _, _, _, _, _, _, _, _, _, _ => none
 | k + 1, x2, x129, x1000, x1001, x1002, x139000, x139001, x139002, x139003, x139004, x139005, x139006, x139007 => if x129 = true then (some (0, false)) else (if 0 ≤ x139004 then (if x139004 < (x1000.length : Int) then (if 1 ≤ (x2.length : Int) then ((slices_Equal_int_int.f k (x2.drop 1) ((rd_T73 x1000 x139004).f0)).bind fun t185 => (some ((rd_T73 x1000 x139004).f1, t185))) else (none)) else (none)) else (none))
end
def kind_result.f (k : Nat) (s0_0 : List (S73)) (s0_1 : List (S77)) (s0_2 : List (S66)) (a1_0 : Int) (a1_1 : Int) (a1_2 : Int) (a1_3 : Int) (a1_4 : Int) (a1_5 : ByteArray) (l1_6 : List Int) (a1_7 : Bool) (l2 : List Int) : Option (Int × Bool) := if a1_0 = 0 then (some (0, true)) else (if a1_0 = 1 then ((kind_within.f a1_4 2).bind fun t139 => (some (1, t139))) else (if a1_0 = 2 then (some (2, decide ((a1_5.size : Int) ≤ 64))) else (if a1_0 = 3 then ((word_Tells.f a1_4).bind fun t140 => ((kind_within.f a1_4 14).bind fun t141 => (if t141 = true then ((kind_is.f k l2 (([0, 0] : List Int))).bind fun t145 => (some (t140, t145))) else (some (t140, false))))) else (if a1_0 = 4 then ((kind_is.f k l2 (([1] : List Int))).bind fun t149 => (some (1, t149))) else (if a1_0 = 5 then ((kind_is.f k l2 (([2, 2] : List Int))).bind fun t153 => (some (2, t153))) else (if a1_0 = 8 then ((kind_is.f k l2 (([2, 2] : List Int))).bind fun t157 => (some (1, t157))) else (if a1_0 = 6 then ((kind_is.f k l2 (([2] : List Int))).bind fun t161 => (some (0, t161))) else (if a1_0 = 7 then ((kind_is.f k l2 (([2, 0] : List Int))).bind fun t165 => (some (0, t165))) else (if a1_0 = 25 then ((kind_is.f k l2 (([0] : List Int))).bind fun t169 => (if t169 = true then (some ((-1), true)) else ((kind_is.f k l2 (([2] : List Int))).bind fun t173 => (some ((-1), t173))))) else (if a1_0 = 23 then ((kind_within.f a1_4 (s0_2.length : Int)).bind fun t174 => (if t174 = true then (if 0 ≤ a1_4 then (if a1_4 < (s0_2.length : Int) then (kind_result.j0 k l2 ((((rd_T66 s0_2 a1_4).f1).length : Int) == 0) s0_0 s0_1 s0_2 a1_0 a1_1 a1_2 a1_3 a1_4 a1_5 l1_6 a1_7) else (none)) else (none)) else (kind_result.j0 k l2 true s0_0 s0_1 s0_2 a1_0 a1_1 a1_2 a1_3 a1_4 a1_5 l1_6 a1_7))) else (if a1_0 = 24 then ((kind_within.f a1_4 (s0_0.length : Int)).bind fun t180 => (if t180 = true then (if 0 < (l2.length : Int) then (kind_result.j1 k l2 ((rd l2 0) != 5) s0_0 s0_1 s0_2 a1_0 a1_1 a1_2 a1_3 a1_4 a1_5 l1_6 a1_7) else (none)) else (kind_result.j1 k l2 true s0_0 s0_1 s0_2 a1_0 a1_1 a1_2 a1_3 a1_4 a1_5 l1_6 a1_7))) else ((kind_memory.f s0_0 s0_1 s0_2 a1_0 a1_1 a1_2 a1_3 a1_4 a1_5 l1_6 a1_7 l2).bind fun bt186 => (some (bt186.1, bt186.2))))))))))))))
theorem kind_result.mono_l : ∀ k, (∀ y0 y1 y2 y3 y4 y5 y6 y7 y8 y9 y10 y11 y12, LeO (kind_result.j0 k y0 y1 y2 y3 y4 y5 y6 y7 y8 y9 y10 y11 y12) (kind_result.j0 (k + 1) y0 y1 y2 y3 y4 y5 y6 y7 y8 y9 y10 y11 y12)) ∧ (∀ y0 y1 y2 y3 y4 y5 y6 y7 y8 y9 y10 y11 y12, LeO (kind_result.j1 k y0 y1 y2 y3 y4 y5 y6 y7 y8 y9 y10 y11 y12) (kind_result.j1 (k + 1) y0 y1 y2 y3 y4 y5 y6 y7 y8 y9 y10 y11 y12))
 | 0 => ⟨fun _ _ _ _ _ _ _ _ _ _ _ _ _ r h => by simp [kind_result.j0] at h, fun _ _ _ _ _ _ _ _ _ _ _ _ _ r h => by simp [kind_result.j1] at h⟩
 | k + 1 => by
  obtain ⟨ih0, ih1⟩ := kind_result.mono_l k
  refine ⟨?_, ?_⟩
  ·intro y0 y1 y2 y3 y4 y5 y6 y7 y8 y9 y10 y11 y12
   unfold kind_result.j0
   repeat' first
   | (with_reducible exact ih0 _ _ _ _ _ _ _ _ _ _ _ _ _)
   | (with_reducible exact ih1 _ _ _ _ _ _ _ _ _ _ _ _ _)
   | (with_reducible exact kind_is.mono _ _ _)
   | (with_reducible exact slices_Equal_int_int.mono _ _ _)
   | (with_reducible exact LeO.refl _)
   | (with_reducible exact LeO.none _)
   | (with_reducible refine LeO.ite ?_ ?_)
   | (with_reducible refine LeO.bind ?_ (fun _ => ?_))
   | exact ih0 _ _ _ _ _ _ _ _ _ _ _ _ _
   | exact ih1 _ _ _ _ _ _ _ _ _ _ _ _ _
   | exact kind_is.mono _ _ _
   | exact slices_Equal_int_int.mono _ _ _
   | exact LeO.none _
   | refine LeO.ite ?_ ?_
   | refine LeO.bind ?_ (fun _ => ?_)
  ·intro y0 y1 y2 y3 y4 y5 y6 y7 y8 y9 y10 y11 y12
   unfold kind_result.j1
   repeat' first
   | (with_reducible exact ih0 _ _ _ _ _ _ _ _ _ _ _ _ _)
   | (with_reducible exact ih1 _ _ _ _ _ _ _ _ _ _ _ _ _)
   | (with_reducible exact kind_is.mono _ _ _)
   | (with_reducible exact slices_Equal_int_int.mono _ _ _)
   | (with_reducible exact LeO.refl _)
   | (with_reducible exact LeO.none _)
   | (with_reducible refine LeO.ite ?_ ?_)
   | (with_reducible refine LeO.bind ?_ (fun _ => ?_))
   | exact ih0 _ _ _ _ _ _ _ _ _ _ _ _ _
   | exact ih1 _ _ _ _ _ _ _ _ _ _ _ _ _
   | exact kind_is.mono _ _ _
   | exact slices_Equal_int_int.mono _ _ _
   | exact LeO.none _
   | refine LeO.ite ?_ ?_
   | refine LeO.bind ?_ (fun _ => ?_)
theorem kind_result.mono : ∀ a0 a1 a2 a3 a4 a5 a6 a7 a8 a9 a10 a11 k, LeO (kind_result.f k a0 a1 a2 a3 a4 a5 a6 a7 a8 a9 a10 a11) (kind_result.f (k + 1) a0 a1 a2 a3 a4 a5 a6 a7 a8 a9 a10 a11) := by
 intro a0 a1 a2 a3 a4 a5 a6 a7 a8 a9 a10 a11 k
 obtain ⟨ih0, ih1⟩ := kind_result.mono_l k
 unfold kind_result.f
 repeat' first
   | (with_reducible exact ih0 _ _ _ _ _ _ _ _ _ _ _ _ _)
   | (with_reducible exact ih1 _ _ _ _ _ _ _ _ _ _ _ _ _)
   | (with_reducible exact kind_is.mono _ _ _)
   | (with_reducible exact slices_Equal_int_int.mono _ _ _)
   | (with_reducible exact LeO.refl _)
   | (with_reducible exact LeO.none _)
   | (with_reducible refine LeO.ite ?_ ?_)
   | (with_reducible refine LeO.bind ?_ (fun _ => ?_))
   | exact ih0 _ _ _ _ _ _ _ _ _ _ _ _ _
   | exact ih1 _ _ _ _ _ _ _ _ _ _ _ _ _
   | exact kind_is.mono _ _ _
   | exact slices_Equal_int_int.mono _ _ _
   | exact LeO.none _
   | refine LeO.ite ?_ ?_
   | refine LeO.bind ?_ (fun _ => ?_)
def kind_result.T9 : Bool × List (List Nat × List Nat) := (true, [([], []), ([0], [0]), ([1], [1]), ([], []), ([3], [3]), ([4, 2], [4]), ([5, 5], [5]), ([6], [6]), ([6], [6]), ([7, 8, 6, 6], [6, 7, 8]), ([6, 9], [6, 9]), ([2, 9, 0, 1, 2], [2]), ([10, 11, 0, 1, 2, 3, 4, 5, 6, 7, 8, 9, 10, 11], [10])])
def kind_result.B9 : List Nat := [0, 1, 3, 0, 8, 31, 63, 127, 127, 511, 1023, 1023, 4095]
theorem kind_result.tab9 : rtab .any (opsOf Tryd.f34 9) = kind_result.T9 := by kernel_rfl
theorem kind_result.bits9 : waitsOk kind_result.T9.2 kind_result.B9 = true := by kernel_rfl
def kind_result.T23 : Bool × List (List Nat × List Nat) := (true, [([], []), ([0], [0]), ([], []), ([2], [2]), ([3], [3]), ([4], [4]), ([5], [5]), ([1, 6], [1, 6]), ([7], [7]), ([8, 7], [8]), ([9], [9]), ([10, 9], [9, 10]), ([11, 9], [9, 11]), ([12, 9], [9, 12]), ([9], [9]), ([14, 9], [9, 14]), ([13, 15, 9], [9, 13, 15]), ([16, 9], [9, 16]), ([17, 9], [9, 17]), ([18, 9], [9, 18]), ([19, 9], [9, 19]), ([9, 20], [9, 20])])
def kind_result.B23 : List Nat := [0, 1, 0, 4, 12, 28, 60, 127, 255, 511, 1023, 2047, 4095, 8191, 1023, 17407, 65535, 131071, 262143, 524287, 1048575, 2097151]
theorem kind_result.tab23 : rtab .any (opsOf Tryd.f34 23) = kind_result.T23 := by kernel_rfl
theorem kind_result.bits23 : waitsOk kind_result.T23.2 kind_result.B23 = true := by kernel_rfl
def kind_result.T25 : Bool × List (List Nat × List Nat) := (true, [([], []), ([0], [0]), ([1], [1]), ([2], [2]), ([], []), ([4], [4]), ([3, 5], [3, 5]), ([6], [6]), ([], []), ([8, 7, 0, 1, 2, 3, 4, 5, 6, 7, 8], [7, 8])])
def kind_result.B25 : List Nat := [0, 1, 3, 7, 0, 16, 63, 127, 0, 511]
theorem kind_result.tab25 : rtab .any (opsOf Tryd.f34 25) = kind_result.T25 := by kernel_rfl
theorem kind_result.bits25 : waitsOk kind_result.T25.2 kind_result.B25 = true := by kernel_rfl
def kind_result.T26 : Bool × List (List Nat × List Nat) := (true, [([], []), ([0], [0]), ([], []), ([], []), ([3], [3]), ([4], [4]), ([5], [5]), ([6], [6]), ([2, 7], [2, 7]), ([1, 8, 0, 1], [1]), ([8, 9, 0, 1, 2, 3, 4, 5, 6, 7, 8, 9], [8])])
def kind_result.B26 : List Nat := [0, 1, 0, 0, 8, 24, 56, 120, 252, 511, 1023]
theorem kind_result.tab26 : rtab .any (opsOf Tryd.f34 26) = kind_result.T26 := by kernel_rfl
theorem kind_result.bits26 : waitsOk kind_result.T26.2 kind_result.B26 = true := by kernel_rfl
def kind_result.T28 : Bool × List (List Nat × List Nat) := (true, [([], []), ([0], [0]), ([], []), ([2], [2]), ([3], [3]), ([4], [4]), ([5], [5]), ([1, 6], [1, 6]), ([7], [7]), ([8, 7], [8]), ([9], [9]), ([10, 9], [9, 10]), ([11, 9], [9, 11]), ([12, 9], [9, 12]), ([9, 13], [9, 13])])
def kind_result.B28 : List Nat := [0, 1, 0, 4, 12, 28, 60, 127, 255, 511, 1023, 2047, 4095, 8191, 16383]
theorem kind_result.tab28 : rtab .any (opsOf Tryd.f34 28) = kind_result.T28 := by kernel_rfl
theorem kind_result.bits28 : waitsOk kind_result.T28.2 kind_result.B28 = true := by kernel_rfl
def kind_result.T30 : Bool × List (List Nat × List Nat) := (true, [([], []), ([0], [0]), ([1], [1]), ([2], [2]), ([], []), ([4], [4]), ([3, 5], [3, 5]), ([6], [6]), ([7], [7]), ([], []), ([9], [9]), ([], []), ([11], [11]), ([12], [12]), ([13], [13]), ([], []), ([15], [15]), ([14, 16], [14, 16]), ([17], [17]), ([18], [18]), ([10, 19], [10, 19]), ([8, 20, 0, 1, 2, 3, 4, 5, 6, 7, 8], [8]), ([20, 21, 0, 1, 2, 3, 4, 5, 6, 7, 8, 9, 10, 11, 12, 13, 14, 15, 16, 17, 18, 19, 20, 21], [20])])
def kind_result.B30 : List Nat := [0, 1, 3, 7, 0, 16, 63, 127, 255, 0, 512, 0, 2048, 6144, 14336, 0, 32768, 129024, 260096, 522240, 1048064, 2097151, 4194303]
theorem kind_result.tab30 : rtab .any (opsOf Tryd.f34 30) = kind_result.T30 := by kernel_rfl
theorem kind_result.bits30 : waitsOk kind_result.T30.2 kind_result.B30 = true := by kernel_rfl
set_option maxHeartbeats 8000000 in
set_option maxRecDepth 100000 in
theorem kind_result.calls (k : Nat) (g : Nat) (s0_0 : List (S73)) (s0_1 : List (S77)) (s0_2 : List (S66)) (a1_0 : Int) (a1_1 : Int) (a1_2 : Int) (a1_3 : Int) (a1_4 : Int) (a1_5 : ByteArray) (A1_6 : Option Addr) (c1_6 : Nat) (l1_6 : List Int) (a1_7 : Bool) (A2 : Option Addr) (c2 : Nat) (l2 : List Int) (r1 : Int) (r2 : Bool) (w0 w : World) (hI : IsS26 w0 w g s0_0 s0_1 s0_2) (hB : Below w0.heap.size w0 w) (hr1_6 : Kd.C (Kd.int .i64) w A1_6 l1_6.length l1_6) (hc1_6 : l1_6.length ≤ c1_6) (hf1_6 : ∀ ad, A1_6 = some ad → 0 < l1_6.length → ad.block ≠ g) (hr2 : Kd.C (Kd.int .i64) w A2 l2.length l2) (hc2 : l2.length ≤ c2) (hf2 : ∀ ad, A2 = some ad → 0 < l2.length → ad.block ≠ g) (h : kind_result.f k s0_0 s0_1 s0_2 a1_0 a1_1 a1_2 a1_3 a1_4 a1_5 l1_6 a1_7 l2 = some (r1, r2)) :
  Calls Tryd.prog 34 #[.pointer (some ⟨g, 0, none⟩), .agg #[.int .i64 a1_0, .int .i64 a1_1, .int .i64 a1_2, .int .i64 a1_3, .int .i64 a1_4, .string a1_5, .slice A1_6 l1_6.length c1_6, .bool a1_7], .slice A2 l2.length c2] w fun e w' => e = .returned (.tuple #[.int .i64 r1, .bool r2]) ∧ IsS26 w0 w' g s0_0 s0_1 s0_2 ∧ Below w0.heap.size w0 w' ∧ KeepBut w w' g none := by
 have hu33 := Tryd.underlying33
 have hu66 := Tryd.underlying66
 have HR1_6 := zm hr1_6
 have HC1_6 := zm hc1_6
 clear hr1_6 hc1_6
 have HR2 := zm hr2
 have HC2 := zm hc2
 clear hr2 hc2
 have HI0 := zm hI
 have HK := zm (KeepBut.refl w g none)
 have HL := zm hB.size
 clear hI
 have HW0 := zm hB.size
 have HB := zm hB
 clear hB
 have H : (if a1_0 = 0 then (some (0, true)) else (if a1_0 = 1 then ((kind_within.f a1_4 2).bind fun t139 => (some (1, t139))) else (if a1_0 = 2 then (some (2, decide ((a1_5.size : Int) ≤ 64))) else (if a1_0 = 3 then ((word_Tells.f a1_4).bind fun t140 => ((kind_within.f a1_4 14).bind fun t141 => (if t141 = true then ((kind_is.f k l2 (([0, 0] : List Int))).bind fun t145 => (some (t140, t145))) else (some (t140, false))))) else (if a1_0 = 4 then ((kind_is.f k l2 (([1] : List Int))).bind fun t149 => (some (1, t149))) else (if a1_0 = 5 then ((kind_is.f k l2 (([2, 2] : List Int))).bind fun t153 => (some (2, t153))) else (if a1_0 = 8 then ((kind_is.f k l2 (([2, 2] : List Int))).bind fun t157 => (some (1, t157))) else (if a1_0 = 6 then ((kind_is.f k l2 (([2] : List Int))).bind fun t161 => (some (0, t161))) else (if a1_0 = 7 then ((kind_is.f k l2 (([2, 0] : List Int))).bind fun t165 => (some (0, t165))) else (if a1_0 = 25 then ((kind_is.f k l2 (([0] : List Int))).bind fun t169 => (if t169 = true then (some ((-1), true)) else ((kind_is.f k l2 (([2] : List Int))).bind fun t173 => (some ((-1), t173))))) else (if a1_0 = 23 then ((kind_within.f a1_4 (s0_2.length : Int)).bind fun t174 => (if t174 = true then (if 0 ≤ a1_4 then (if a1_4 < (s0_2.length : Int) then (kind_result.j0 k l2 ((((rd_T66 s0_2 a1_4).f1).length : Int) == 0) s0_0 s0_1 s0_2 a1_0 a1_1 a1_2 a1_3 a1_4 a1_5 l1_6 a1_7) else (none)) else (none)) else (kind_result.j0 k l2 true s0_0 s0_1 s0_2 a1_0 a1_1 a1_2 a1_3 a1_4 a1_5 l1_6 a1_7))) else (if a1_0 = 24 then ((kind_within.f a1_4 (s0_0.length : Int)).bind fun t180 => (if t180 = true then (if 0 < (l2.length : Int) then (kind_result.j1 k l2 ((rd l2 0) != 5) s0_0 s0_1 s0_2 a1_0 a1_1 a1_2 a1_3 a1_4 a1_5 l1_6 a1_7) else (none)) else (kind_result.j1 k l2 true s0_0 s0_1 s0_2 a1_0 a1_1 a1_2 a1_3 a1_4 a1_5 l1_6 a1_7))) else ((kind_memory.f s0_0 s0_1 s0_2 a1_0 a1_1 a1_2 a1_3 a1_4 a1_5 l1_6 a1_7 l2).bind fun bt186 => (some (bt186.1, bt186.2))))))))))))))) = some (r1, r2) := h
 clear h
 by_cases c4 : a1_0 = 0
 ·rw [if_pos c4] at H
  have c4b0 : (a1_0 == 0) = true := beq_iff_eq.mpr c4
  have c4b1 : (a1_0 != 0) = false := bne_eq_false_iff_eq.mpr c4
  clear c4
  simp only [Option.some.injEq, Prod.mk.injEq] at H
  obtain ⟨rfl, rfl⟩ := H
  go_enter Tryd.func34, Tryd.ntmps34
  go_wp2_with (first | ((with_reducible refine gate_dst (N := 4) rfl ?_); (try (refine gate_guard (by rfl) ?_; dsimp only)); refine box_event ?hg (N := 4) ?hd (cs := #[.int .i64 a1_0, .int .i64 a1_1, .int .i64 a1_2, .int .i64 a1_3, .int .i64 a1_4, .string a1_5, .slice A1_6 l1_6.length c1_6, .bool a1_7]) (t := 33) ?hr ?_; (case hd => rfl); (case hg => rfl); (case hr => first | (go_simp; done) | (go_simp; rfl)); intro gb138 hg w5 hbox hb; have n0_ := zm (IsS26.below (by repeat (first | (with_reducible first | exact HI0.out | apply IsS26.alloc | apply IsS26.drewN | apply IsS26.drew) | exact HI0.out)) hb); have n1_ := zm (KeepBut.trans (by repeat (first | (with_reducible first | exact HK.out | apply KeepBut.set_ | apply keep_drewN | apply keep_drew | apply keep_alloc) | exact HK.out)) (KeepBut.of_below hb g none) (.inl rfl)); have n2_ := zm (below_step (by repeat (first | (with_reducible first | exact HB.out | apply below_alloc | apply pw_below_drewN | apply below_drew1 | refine below_set ?_ (IsS26.ge HI0.out)) | exact HB.out)) hb); have n3_ := zm (hbox); have n4_ := zm ((by rw [hg]; exact (keep_size (w := w) (g := g) (row := none) (by repeat (first | (with_reducible first | exact HK.out | apply KeepBut.set_ | apply keep_drewN | apply keep_drew | apply keep_alloc) | exact HK.out))) : w.heap.size ≤ gb138)); have n5_ := zm ((Nat.le_trans HW0.out (by rw [hg]; exact (keep_size (w := w) (g := g) (row := none) (by repeat (first | (with_reducible first | exact HK.out | apply KeepBut.set_ | apply keep_drewN | apply keep_drew | apply keep_alloc) | exact HK.out))) : w.heap.size ≤ gb138) : w0.heap.size ≤ gb138)); have n6_ := zm ((by rw [hg]; exact Nat.ne_of_lt (IsS26.lt (show IsS26 w0 _ g s0_0 s0_1 s0_2 from by repeat (first | (with_reducible first | exact HI0.out | apply IsS26.alloc | apply IsS26.drewN | apply IsS26.drew) | exact HI0.out))) : g ≠ gb138)); have n7_ := zm ((by rw [hg]; exact Nat.ne_of_gt (IsS26.lt (show IsS26 w0 _ g s0_0 s0_1 s0_2 from by repeat (first | (with_reducible first | exact HI0.out | apply IsS26.alloc | apply IsS26.drewN | apply IsS26.drew) | exact HI0.out))) : gb138 ≠ g)); clear HI0; clear HK; clear HB; have HI0 := n0_; have HK := n1_; have HB := n2_; have BK138 := n3_; have GW138 := n4_; have GE138 := n5_; have NB0_138 := n6_; have NB138_0 := n7_; clear n0_ n1_ n2_ n3_ n4_ n5_ n6_ n7_; clear hb hbox hg; have hnb6 := NB138_0.out; have hnc6 := NB0_138.out; have hcz7_0 : w5.cell? ⟨gb138, 0, none⟩ = some (.int .i64 a1_0) := (blk_cell BK138.out 0).trans rfl; have hcz7_1 : w5.cell? ⟨gb138, 1, none⟩ = some (.int .i64 a1_1) := (blk_cell BK138.out 1).trans rfl; have hcz7_2 : w5.cell? ⟨gb138, 2, none⟩ = some (.int .i64 a1_2) := (blk_cell BK138.out 2).trans rfl; have hcz7_3 : w5.cell? ⟨gb138, 3, none⟩ = some (.int .i64 a1_3) := (blk_cell BK138.out 3).trans rfl; have hcz7_4 : w5.cell? ⟨gb138, 4, none⟩ = some (.int .i64 a1_4) := (blk_cell BK138.out 4).trans rfl; have hcz7_5 : w5.cell? ⟨gb138, 5, none⟩ = some (.string a1_5) := (blk_cell BK138.out 5).trans rfl; have hcz7_6 : w5.cell? ⟨gb138, 6, none⟩ = some (.slice A1_6 l1_6.length c1_6) := (blk_cell BK138.out 6).trans rfl; have hcz7_7 : w5.cell? ⟨gb138, 7, none⟩ = some (.bool a1_7) := (blk_cell BK138.out 7).trans rfl; have hfz7_0 := blk_frozen BK138.out 0; have hfz7_1 := blk_frozen BK138.out 1; have hfz7_2 := blk_frozen BK138.out 2; have hfz7_3 := blk_frozen BK138.out 3; have hfz7_4 := blk_frozen BK138.out 4; have hfz7_5 := blk_frozen BK138.out 5; have hfz7_6 := blk_frozen BK138.out 6; have hfz7_7 := blk_frozen BK138.out 7))
  go_ret2
  exact ⟨by first | rfl | (simp [errW_none, errW_some] <;> rfl) | (simp [*, errW_none, errW_some] <;> rfl), by repeat (first | (with_reducible first | exact HI0.out | apply IsS26.alloc | apply IsS26.drewN | apply IsS26.drew | refine IsS26.far ?_ NB0_138.out _) | exact HI0.out), by repeat (first | (with_reducible first | exact HB.out | apply below_alloc | apply pw_below_drewN | apply below_drew1 | refine below_set ?_ (IsS26.ge HI0.out) | refine below_set ?_ GE138.out) | exact HB.out), by repeat (first | (with_reducible first | exact HK.out | apply KeepBut.set_ | apply keep_drewN | apply keep_drew | apply keep_alloc | refine keep_far ?_ GW138.out _) | exact HK.out)⟩
 ·rw [if_neg c4] at H
  have c4b0 : (a1_0 == 0) = false := beq_eq_false_iff_ne.mpr c4
  have c4b1 : (a1_0 != 0) = true := bne_iff_ne.mpr c4
  by_cases c8 : a1_0 = 1
  ·rw [if_pos c8] at H
   have c8b0 : (a1_0 == 1) = true := beq_iff_eq.mpr c8
   have c8b1 : (a1_0 != 1) = false := bne_eq_false_iff_eq.mpr c8
   clear c8
   replace H := Option.bind_eq_some_iff.mp H
   obtain ⟨t139, A90, H⟩ := H
   replace H : (some (1, t139)) = some (r1, r2) := H
   have A9 := zm A90
   clear A90
   simp only [Option.some.injEq, Prod.mk.injEq] at H
   obtain ⟨rfl, rfl⟩ := H
   go_enter Tryd.func34, Tryd.ntmps34
   go_wp2_with (first | ((with_reducible refine gate_dst (N := 4) rfl ?_); (try (refine gate_guard (by rfl) ?_; dsimp only)); refine box_event ?hg (N := 4) ?hd (cs := #[.int .i64 a1_0, .int .i64 a1_1, .int .i64 a1_2, .int .i64 a1_3, .int .i64 a1_4, .string a1_5, .slice A1_6 l1_6.length c1_6, .bool a1_7]) (t := 33) ?hr ?_; (case hd => rfl); (case hg => rfl); (case hr => first | (go_simp; done) | (go_simp; rfl)); intro gb138 hg w10 hbox hb; have n0_ := zm (IsS26.below (by repeat (first | (with_reducible first | exact HI0.out | apply IsS26.alloc | apply IsS26.drewN | apply IsS26.drew) | exact HI0.out)) hb); have n1_ := zm (KeepBut.trans (by repeat (first | (with_reducible first | exact HK.out | apply KeepBut.set_ | apply keep_drewN | apply keep_drew | apply keep_alloc) | exact HK.out)) (KeepBut.of_below hb g none) (.inl rfl)); have n2_ := zm (below_step (by repeat (first | (with_reducible first | exact HB.out | apply below_alloc | apply pw_below_drewN | apply below_drew1 | refine below_set ?_ (IsS26.ge HI0.out)) | exact HB.out)) hb); have n3_ := zm (hbox); have n4_ := zm ((by rw [hg]; exact (keep_size (w := w) (g := g) (row := none) (by repeat (first | (with_reducible first | exact HK.out | apply KeepBut.set_ | apply keep_drewN | apply keep_drew | apply keep_alloc) | exact HK.out))) : w.heap.size ≤ gb138)); have n5_ := zm ((Nat.le_trans HW0.out (by rw [hg]; exact (keep_size (w := w) (g := g) (row := none) (by repeat (first | (with_reducible first | exact HK.out | apply KeepBut.set_ | apply keep_drewN | apply keep_drew | apply keep_alloc) | exact HK.out))) : w.heap.size ≤ gb138) : w0.heap.size ≤ gb138)); have n6_ := zm ((by rw [hg]; exact Nat.ne_of_lt (IsS26.lt (show IsS26 w0 _ g s0_0 s0_1 s0_2 from by repeat (first | (with_reducible first | exact HI0.out | apply IsS26.alloc | apply IsS26.drewN | apply IsS26.drew) | exact HI0.out))) : g ≠ gb138)); have n7_ := zm ((by rw [hg]; exact Nat.ne_of_gt (IsS26.lt (show IsS26 w0 _ g s0_0 s0_1 s0_2 from by repeat (first | (with_reducible first | exact HI0.out | apply IsS26.alloc | apply IsS26.drewN | apply IsS26.drew) | exact HI0.out))) : gb138 ≠ g)); clear HI0; clear HK; clear HB; have HI0 := n0_; have HK := n1_; have HB := n2_; have BK138 := n3_; have GW138 := n4_; have GE138 := n5_; have NB0_138 := n6_; have NB138_0 := n7_; clear n0_ n1_ n2_ n3_ n4_ n5_ n6_ n7_; clear hb hbox hg; have hnb11 := NB138_0.out; have hnc11 := NB0_138.out; have hcz12_0 : w10.cell? ⟨gb138, 0, none⟩ = some (.int .i64 a1_0) := (blk_cell BK138.out 0).trans rfl; have hcz12_1 : w10.cell? ⟨gb138, 1, none⟩ = some (.int .i64 a1_1) := (blk_cell BK138.out 1).trans rfl; have hcz12_2 : w10.cell? ⟨gb138, 2, none⟩ = some (.int .i64 a1_2) := (blk_cell BK138.out 2).trans rfl; have hcz12_3 : w10.cell? ⟨gb138, 3, none⟩ = some (.int .i64 a1_3) := (blk_cell BK138.out 3).trans rfl; have hcz12_4 : w10.cell? ⟨gb138, 4, none⟩ = some (.int .i64 a1_4) := (blk_cell BK138.out 4).trans rfl; have hcz12_5 : w10.cell? ⟨gb138, 5, none⟩ = some (.string a1_5) := (blk_cell BK138.out 5).trans rfl; have hcz12_6 : w10.cell? ⟨gb138, 6, none⟩ = some (.slice A1_6 l1_6.length c1_6) := (blk_cell BK138.out 6).trans rfl; have hcz12_7 : w10.cell? ⟨gb138, 7, none⟩ = some (.bool a1_7) := (blk_cell BK138.out 7).trans rfl; have hfz12_0 := blk_frozen BK138.out 0; have hfz12_1 := blk_frozen BK138.out 1; have hfz12_2 := blk_frozen BK138.out 2; have hfz12_3 := blk_frozen BK138.out 3; have hfz12_4 := blk_frozen BK138.out 4; have hfz12_5 := blk_frozen BK138.out 5; have hfz12_6 := blk_frozen BK138.out 6; have hfz12_7 := blk_frozen BK138.out 7) | ((with_reducible refine gate_callee (f := 39) rfl ?_); refine goesL_ (some 17) rfl rfl Tryd.func39 (by kernel_rfl) rfl #[.int .i64 a1_4, .int .i64 2] rfl (by (try simp only [List.map_toArray, List.map_cons, List.map_nil]); first | done | rfl | (simp only [List.length_drop, List.length_take]; rfl)) ?_; (with_reducible refine (kind_within.calls a1_4 2 t139 _ A9.out).mono ?_); rintro e w' ⟨rfl, ⟨nd, rfl⟩⟩; refine ⟨_, rfl, ?_⟩))
   go_ret2
   exact ⟨by first | rfl | (simp [errW_none, errW_some] <;> rfl) | (simp [*, errW_none, errW_some] <;> rfl), by repeat (first | (with_reducible first | exact HI0.out | apply IsS26.alloc | apply IsS26.drewN | apply IsS26.drew | refine IsS26.far ?_ NB0_138.out _) | exact HI0.out), by repeat (first | (with_reducible first | exact HB.out | apply below_alloc | apply pw_below_drewN | apply below_drew1 | refine below_set ?_ (IsS26.ge HI0.out) | refine below_set ?_ GE138.out) | exact HB.out), by repeat (first | (with_reducible first | exact HK.out | apply KeepBut.set_ | apply keep_drewN | apply keep_drew | apply keep_alloc | refine keep_far ?_ GW138.out _) | exact HK.out)⟩
  ·rw [if_neg c8] at H
   have c8b0 : (a1_0 == 1) = false := beq_eq_false_iff_ne.mpr c8
   have c8b1 : (a1_0 != 1) = true := bne_iff_ne.mpr c8
   by_cases c13 : a1_0 = 2
   ·rw [if_pos c13] at H
    have c13b0 : (a1_0 == 2) = true := beq_iff_eq.mpr c13
    have c13b1 : (a1_0 != 2) = false := bne_eq_false_iff_eq.mpr c13
    clear c13
    simp only [Option.some.injEq, Prod.mk.injEq] at H
    obtain ⟨rfl, rfl⟩ := H
    go_enter Tryd.func34, Tryd.ntmps34
    try go_wp2_with (first | ((with_reducible refine gate_dst (N := 4) rfl ?_); (try (refine gate_guard (by rfl) ?_; dsimp only)); refine box_event ?hg (N := 4) ?hd (cs := #[.int .i64 a1_0, .int .i64 a1_1, .int .i64 a1_2, .int .i64 a1_3, .int .i64 a1_4, .string a1_5, .slice A1_6 l1_6.length c1_6, .bool a1_7]) (t := 33) ?hr ?_; (case hd => rfl); (case hg => rfl); (case hr => first | (go_simp; done) | (go_simp; rfl)); intro gb138 hg w14 hbox hb; have n0_ := zm (IsS26.below (by repeat (first | (with_reducible first | exact HI0.out | apply IsS26.alloc | apply IsS26.drewN | apply IsS26.drew) | exact HI0.out)) hb); have n1_ := zm (KeepBut.trans (by repeat (first | (with_reducible first | exact HK.out | apply KeepBut.set_ | apply keep_drewN | apply keep_drew | apply keep_alloc) | exact HK.out)) (KeepBut.of_below hb g none) (.inl rfl)); have n2_ := zm (below_step (by repeat (first | (with_reducible first | exact HB.out | apply below_alloc | apply pw_below_drewN | apply below_drew1 | refine below_set ?_ (IsS26.ge HI0.out)) | exact HB.out)) hb); have n3_ := zm (hbox); have n4_ := zm ((by rw [hg]; exact (keep_size (w := w) (g := g) (row := none) (by repeat (first | (with_reducible first | exact HK.out | apply KeepBut.set_ | apply keep_drewN | apply keep_drew | apply keep_alloc) | exact HK.out))) : w.heap.size ≤ gb138)); have n5_ := zm ((Nat.le_trans HW0.out (by rw [hg]; exact (keep_size (w := w) (g := g) (row := none) (by repeat (first | (with_reducible first | exact HK.out | apply KeepBut.set_ | apply keep_drewN | apply keep_drew | apply keep_alloc) | exact HK.out))) : w.heap.size ≤ gb138) : w0.heap.size ≤ gb138)); have n6_ := zm ((by rw [hg]; exact Nat.ne_of_lt (IsS26.lt (show IsS26 w0 _ g s0_0 s0_1 s0_2 from by repeat (first | (with_reducible first | exact HI0.out | apply IsS26.alloc | apply IsS26.drewN | apply IsS26.drew) | exact HI0.out))) : g ≠ gb138)); have n7_ := zm ((by rw [hg]; exact Nat.ne_of_gt (IsS26.lt (show IsS26 w0 _ g s0_0 s0_1 s0_2 from by repeat (first | (with_reducible first | exact HI0.out | apply IsS26.alloc | apply IsS26.drewN | apply IsS26.drew) | exact HI0.out))) : gb138 ≠ g)); clear HI0; clear HK; clear HB; have HI0 := n0_; have HK := n1_; have HB := n2_; have BK138 := n3_; have GW138 := n4_; have GE138 := n5_; have NB0_138 := n6_; have NB138_0 := n7_; clear n0_ n1_ n2_ n3_ n4_ n5_ n6_ n7_; clear hb hbox hg; have hnb15 := NB138_0.out; have hnc15 := NB0_138.out; have hcz16_0 : w14.cell? ⟨gb138, 0, none⟩ = some (.int .i64 a1_0) := (blk_cell BK138.out 0).trans rfl; have hcz16_1 : w14.cell? ⟨gb138, 1, none⟩ = some (.int .i64 a1_1) := (blk_cell BK138.out 1).trans rfl; have hcz16_2 : w14.cell? ⟨gb138, 2, none⟩ = some (.int .i64 a1_2) := (blk_cell BK138.out 2).trans rfl; have hcz16_3 : w14.cell? ⟨gb138, 3, none⟩ = some (.int .i64 a1_3) := (blk_cell BK138.out 3).trans rfl; have hcz16_4 : w14.cell? ⟨gb138, 4, none⟩ = some (.int .i64 a1_4) := (blk_cell BK138.out 4).trans rfl; have hcz16_5 : w14.cell? ⟨gb138, 5, none⟩ = some (.string a1_5) := (blk_cell BK138.out 5).trans rfl; have hcz16_6 : w14.cell? ⟨gb138, 6, none⟩ = some (.slice A1_6 l1_6.length c1_6) := (blk_cell BK138.out 6).trans rfl; have hcz16_7 : w14.cell? ⟨gb138, 7, none⟩ = some (.bool a1_7) := (blk_cell BK138.out 7).trans rfl; have hfz16_0 := blk_frozen BK138.out 0; have hfz16_1 := blk_frozen BK138.out 1; have hfz16_2 := blk_frozen BK138.out 2; have hfz16_3 := blk_frozen BK138.out 3; have hfz16_4 := blk_frozen BK138.out 4; have hfz16_5 := blk_frozen BK138.out 5; have hfz16_6 := blk_frozen BK138.out 6; have hfz16_7 := blk_frozen BK138.out 7))
    replace BK138 := zm (blk_drew BK138.out)
    replace HI0 := zm (IsS26.drew HI0.out)
    replace HK := zm (keep_drew HK.out)
    replace HB := zm (below_drew1 HB.out)
    refine start_ (n := 6) (S := fun w' => w'.cell? ⟨gb138, 0, none⟩ = some (.int .i64 a1_0) ∧ w'.cell? ⟨gb138, 1, none⟩ = some (.int .i64 a1_1) ∧ w'.cell? ⟨gb138, 2, none⟩ = some (.int .i64 a1_2) ∧ w'.cell? ⟨gb138, 3, none⟩ = some (.int .i64 a1_3) ∧ w'.cell? ⟨gb138, 4, none⟩ = some (.int .i64 a1_4) ∧ w'.cell? ⟨gb138, 5, none⟩ = some (.string a1_5) ∧ w'.cell? ⟨gb138, 6, none⟩ = some (.slice A1_6 l1_6.length c1_6) ∧ w'.cell? ⟨gb138, 7, none⟩ = some (.bool a1_7)) (ds := []) #[Z,Z,Z,Z,Z,Z] (by kernel_rfl) rfl rfl ⟨(blk_cell BK138.out 0).trans rfl, (blk_cell BK138.out 1).trans rfl, (blk_cell BK138.out 2).trans rfl, (blk_cell BK138.out 3).trans rfl, (blk_cell BK138.out 4).trans rfl, (blk_cell BK138.out 5).trans rfl, (blk_cell BK138.out 6).trans rfl, (blk_cell BK138.out 7).trans rfl⟩ (fun hHeld => ?_)
    generalize w14.drew = w17 at BK138 HI0 HK HB hHeld ⊢
    refine pure_ (i := 0) (N := some 20) (v := ?_) (a' := ?_) #[Y,Z,Z,Z,Z,Z] rfl rfl (by kernel_rfl) (fun _ _ _ h => h) (Or.inl ⟨by rfl, ?_⟩) ?_ ?_
    rotate_left
    ·intro w'
     go_simp
     with_reducible rfl
    rotate_left
    ·simp only [Act.put, zl1, zl2, zl3, i64_w, i32_w]
     rfl
    refine pure_ (i := 4) (N := some 6) (v := ?_) (a' := ?_) #[Y,Z,Z,Z,Y,Z] rfl rfl (by kernel_rfl) (fun _ _ _ h => h) (Or.inl ⟨by rfl, ?_⟩) ?_ ?_
    rotate_left
    ·intro w'
     go_simp
     with_reducible rfl
    rotate_left
    ·simp only [Act.put, zl1, zl2, zl3, i64_w, i32_w]
     rfl
    refine take_ (i := 1) (N := some 21) (v := ?_) (a' := ?_) #[Y,Y,Z,Z,Y,Z] rfl rfl (by kernel_rfl) (fun _ _ _ h => h) (Or.inl ⟨by rfl, ?_⟩) hHeld ?_ ?_
    rotate_left
    ·rintro w' ⟨s0, s1, s2, s3, s4, s5, s6, s7⟩
     go_simp
     with_reducible rfl
    rotate_left
    ·simp only [Act.put, zl1, zl2, zl3, i64_w, i32_w]
     rfl
    refine pure_ (i := 2) (N := some 22) (v := ?_) (a' := ?_) #[Y,Y,Y,Z,Y,Z] rfl rfl (by kernel_rfl) (fun _ _ _ h => h) (Or.inl ⟨by rfl, ?_⟩) ?_ ?_
    rotate_left
    ·intro w'
     go_simp
     with_reducible rfl
    rotate_left
    ·simp only [Act.put, zl1, zl2, zl3, i64_w, i32_w]
     rfl
    refine pure_ (i := 3) (N := some 23) (v := ?_) (a' := ?_) #[Y,Y,Y,Y,Y,Z] rfl rfl (by kernel_rfl) (fun _ _ _ h => h) (Or.inl ⟨by rfl, ?_⟩) ?_ ?_
    rotate_left
    ·intro w'
     go_simp
     with_reducible rfl
    rotate_left
    ·simp only [Act.put, zl1, zl2, zl3, i64_w, i32_w]
     rfl
    refine pure_ (i := 5) (N := some 7) (v := ?_) (a' := ?_) #[Y,Y,Y,Y,Y,Y] rfl rfl (by kernel_rfl) (fun _ _ _ h => h) (Or.inl ⟨by rfl, ?_⟩) ?_ ?_
    rotate_left
    ·intro w'
     go_simp
     with_reducible rfl
    rotate_left
    ·simp only [Act.put, zl1, zl2, zl3, i64_w, i32_w]
     rfl
    refine done_ (by kernel_rfl) ?_
    try go_wp2
    go_ret2
    exact ⟨by first | rfl | (simp [errW_none, errW_some] <;> rfl) | (simp [*, errW_none, errW_some] <;> rfl), by repeat (first | (with_reducible first | exact HI0.out | apply IsS26.alloc | apply IsS26.drewN | apply IsS26.drew | refine IsS26.far ?_ NB0_138.out _) | exact HI0.out), by repeat (first | (with_reducible first | exact HB.out | apply below_alloc | apply pw_below_drewN | apply below_drew1 | refine below_set ?_ (IsS26.ge HI0.out) | refine below_set ?_ GE138.out) | exact HB.out), by repeat (first | (with_reducible first | exact HK.out | apply KeepBut.set_ | apply keep_drewN | apply keep_drew | apply keep_alloc | refine keep_far ?_ GW138.out _) | exact HK.out)⟩
   ·rw [if_neg c13] at H
    have c13b0 : (a1_0 == 2) = false := beq_eq_false_iff_ne.mpr c13
    have c13b1 : (a1_0 != 2) = true := bne_iff_ne.mpr c13
    by_cases c18 : a1_0 = 3
    ·rw [if_pos c18] at H
     have c18b0 : (a1_0 == 3) = true := beq_iff_eq.mpr c18
     have c18b1 : (a1_0 != 3) = false := bne_eq_false_iff_eq.mpr c18
     clear c18
     replace H := Option.bind_eq_some_iff.mp H
     obtain ⟨t140, A190, H⟩ := H
     replace H : ((kind_within.f a1_4 14).bind fun t141 => (if t141 = true then ((kind_is.f k l2 (([0, 0] : List Int))).bind fun t145 => (some (t140, t145))) else (some (t140, false)))) = some (r1, r2) := H
     have A19 := zm A190
     clear A190
     replace H := Option.bind_eq_some_iff.mp H
     obtain ⟨t141, A200, H⟩ := H
     replace H : (if t141 = true then ((kind_is.f k l2 (([0, 0] : List Int))).bind fun t145 => (some (t140, t145))) else (some (t140, false))) = some (r1, r2) := H
     have A20 := zm A200
     clear A200
     by_cases c21 : t141 = true
     ·subst c21
      have H1 : ((kind_is.f k l2 (([0, 0] : List Int))).bind fun t145 => (some (t140, t145))) = some (r1, r2) := by rw [if_pos rfl] at H; exact H
      clear H
      have H := H1
      clear H1
      obtain ⟨y142, hy142⟩ : ∃ y_ : List Int, y_ = (([0, 0] : List Int)) := ⟨_, rfl⟩
      replace H : ((kind_is.f k l2 y142).bind fun t145 => (some (t140, t145))) = some (r1, r2) := by first | (rw [hy142]; with_reducible exact H) | (have H2_ := (Option.bind_some _ _).symm.trans H; rw [hy142]; with_reducible exact H2_) | (have H2_ := (Option.bind_some _ _).symm.trans H; with_reducible exact H2_) | with_reducible exact H | (rw [hy142]; exact H) | exact H
      have Ny142 := zm hy142
      clear hy142
      replace H := Option.bind_eq_some_iff.mp H
      obtain ⟨t145, A220, H⟩ := H
      replace H : (some (t140, t145)) = some (r1, r2) := H
      have A22 := zm A220
      clear A220
      simp only [Option.some.injEq, Prod.mk.injEq] at H
      obtain ⟨rfl, rfl⟩ := H
      go_enter Tryd.func34, Tryd.ntmps34
      try go_wp2_with (first | ((with_reducible refine gate_dst (N := 4) rfl ?_); (try (refine gate_guard (by rfl) ?_; dsimp only)); refine box_event ?hg (N := 4) ?hd (cs := #[.int .i64 a1_0, .int .i64 a1_1, .int .i64 a1_2, .int .i64 a1_3, .int .i64 a1_4, .string a1_5, .slice A1_6 l1_6.length c1_6, .bool a1_7]) (t := 33) ?hr ?_; (case hd => rfl); (case hg => rfl); (case hr => first | (go_simp; done) | (go_simp; rfl)); intro gb138 hg w23 hbox hb; have n0_ := zm (IsS26.below (by repeat (first | (with_reducible first | exact HI0.out | apply IsS26.alloc | apply IsS26.drewN | apply IsS26.drew) | exact HI0.out)) hb); have n1_ := zm (KeepBut.trans (by repeat (first | (with_reducible first | exact HK.out | apply KeepBut.set_ | apply keep_drewN | apply keep_drew | apply keep_alloc) | exact HK.out)) (KeepBut.of_below hb g none) (.inl rfl)); have n2_ := zm (below_step (by repeat (first | (with_reducible first | exact HB.out | apply below_alloc | apply pw_below_drewN | apply below_drew1 | refine below_set ?_ (IsS26.ge HI0.out)) | exact HB.out)) hb); have n3_ := zm (hbox); have n4_ := zm ((by rw [hg]; exact (keep_size (w := w) (g := g) (row := none) (by repeat (first | (with_reducible first | exact HK.out | apply KeepBut.set_ | apply keep_drewN | apply keep_drew | apply keep_alloc) | exact HK.out))) : w.heap.size ≤ gb138)); have n5_ := zm ((Nat.le_trans HW0.out (by rw [hg]; exact (keep_size (w := w) (g := g) (row := none) (by repeat (first | (with_reducible first | exact HK.out | apply KeepBut.set_ | apply keep_drewN | apply keep_drew | apply keep_alloc) | exact HK.out))) : w.heap.size ≤ gb138) : w0.heap.size ≤ gb138)); have n6_ := zm ((by rw [hg]; exact Nat.ne_of_lt (IsS26.lt (show IsS26 w0 _ g s0_0 s0_1 s0_2 from by repeat (first | (with_reducible first | exact HI0.out | apply IsS26.alloc | apply IsS26.drewN | apply IsS26.drew) | exact HI0.out))) : g ≠ gb138)); have n7_ := zm ((by rw [hg]; exact Nat.ne_of_gt (IsS26.lt (show IsS26 w0 _ g s0_0 s0_1 s0_2 from by repeat (first | (with_reducible first | exact HI0.out | apply IsS26.alloc | apply IsS26.drewN | apply IsS26.drew) | exact HI0.out))) : gb138 ≠ g)); clear HI0; clear HK; clear HB; have HI0 := n0_; have HK := n1_; have HB := n2_; have BK138 := n3_; have GW138 := n4_; have GE138 := n5_; have NB0_138 := n6_; have NB138_0 := n7_; clear n0_ n1_ n2_ n3_ n4_ n5_ n6_ n7_; clear hb hbox hg; have hnb24 := NB138_0.out; have hnc24 := NB0_138.out; have hcz25_0 : w23.cell? ⟨gb138, 0, none⟩ = some (.int .i64 a1_0) := (blk_cell BK138.out 0).trans rfl; have hcz25_1 : w23.cell? ⟨gb138, 1, none⟩ = some (.int .i64 a1_1) := (blk_cell BK138.out 1).trans rfl; have hcz25_2 : w23.cell? ⟨gb138, 2, none⟩ = some (.int .i64 a1_2) := (blk_cell BK138.out 2).trans rfl; have hcz25_3 : w23.cell? ⟨gb138, 3, none⟩ = some (.int .i64 a1_3) := (blk_cell BK138.out 3).trans rfl; have hcz25_4 : w23.cell? ⟨gb138, 4, none⟩ = some (.int .i64 a1_4) := (blk_cell BK138.out 4).trans rfl; have hcz25_5 : w23.cell? ⟨gb138, 5, none⟩ = some (.string a1_5) := (blk_cell BK138.out 5).trans rfl; have hcz25_6 : w23.cell? ⟨gb138, 6, none⟩ = some (.slice A1_6 l1_6.length c1_6) := (blk_cell BK138.out 6).trans rfl; have hcz25_7 : w23.cell? ⟨gb138, 7, none⟩ = some (.bool a1_7) := (blk_cell BK138.out 7).trans rfl; have hfz25_0 := blk_frozen BK138.out 0; have hfz25_1 := blk_frozen BK138.out 1; have hfz25_2 := blk_frozen BK138.out 2; have hfz25_3 := blk_frozen BK138.out 3; have hfz25_4 := blk_frozen BK138.out 4; have hfz25_5 := blk_frozen BK138.out 5; have hfz25_6 := blk_frozen BK138.out 6; have hfz25_7 := blk_frozen BK138.out 7))
      replace BK138 := zm (blk_drew BK138.out)
      replace HI0 := zm (IsS26.drew HI0.out)
      replace HK := zm (keep_drew HK.out)
      replace HB := zm (below_drew1 HB.out)
      refine start_ (n := 13) (S := fun w' => w'.cell? ⟨gb138, 0, none⟩ = some (.int .i64 a1_0) ∧ w'.cell? ⟨gb138, 1, none⟩ = some (.int .i64 a1_1) ∧ w'.cell? ⟨gb138, 2, none⟩ = some (.int .i64 a1_2) ∧ w'.cell? ⟨gb138, 3, none⟩ = some (.int .i64 a1_3) ∧ w'.cell? ⟨gb138, 4, none⟩ = some (.int .i64 a1_4) ∧ w'.cell? ⟨gb138, 5, none⟩ = some (.string a1_5) ∧ w'.cell? ⟨gb138, 6, none⟩ = some (.slice A1_6 l1_6.length c1_6) ∧ w'.cell? ⟨gb138, 7, none⟩ = some (.bool a1_7)) (ds := []) #[Z,Z,Z,Z,Z,Z,Z,Z,Z,Z,Z,Z,Z] (by kernel_rfl) rfl rfl ⟨(blk_cell BK138.out 0).trans rfl, (blk_cell BK138.out 1).trans rfl, (blk_cell BK138.out 2).trans rfl, (blk_cell BK138.out 3).trans rfl, (blk_cell BK138.out 4).trans rfl, (blk_cell BK138.out 5).trans rfl, (blk_cell BK138.out 6).trans rfl, (blk_cell BK138.out 7).trans rfl⟩ (fun hHeld => ?_); refine with_tabW kind_result.tab9 kind_result.bits9 (fun HT_ HW_ => ?_)
      generalize w23.drew = w26 at BK138 HI0 HK HB hHeld ⊢
      refine pure_ (i := 0) (N := some 26) (v := ?_) (a' := ?_) #[Y,Z,Z,Z,Z,Z,Z,Z,Z,Z,Z,Z,Z] rfl rfl (any_of HT_.out (by kernel_rfl)) (fun _ _ _ h => h) (Or.inl ⟨by rfl, ?_⟩) ?_ ?_
      rotate_left
      ·intro w'
       go_simp
       with_reducible rfl
      rotate_left
      ·simp only [Act.put, zl1, zl2, zl3, i64_w, i32_w]
       rfl
      refine pure_ (i := 3) (N := some 29) (v := ?_) (a' := ?_) #[Y,Z,Z,Y,Z,Z,Z,Z,Z,Z,Z,Z,Z] rfl rfl (any_of HT_.out (by kernel_rfl)) (fun _ _ _ h => h) (Or.inl ⟨by rfl, ?_⟩) ?_ ?_
      rotate_left
      ·intro w'
       go_simp
       with_reducible rfl
      rotate_left
      ·simp only [Act.put, zl1, zl2, zl3, i64_w, i32_w]
       rfl
      refine take_ (i := 1) (N := some 27) (v := ?_) (a' := ?_) #[Y,Y,Z,Y,Z,Z,Z,Z,Z,Z,Z,Z,Z] rfl rfl (take_ofW HT_.out HW_.out (by kernel_rfl)) (fun _ _ _ h => h) (Or.inl ⟨by rfl, ?_⟩) hHeld ?_ ?_
      rotate_left
      ·rintro w' ⟨s0, s1, s2, s3, s4, s5, s6, s7⟩
       go_simp
       with_reducible rfl
      rotate_left
      ·simp only [Act.put, zl1, zl2, zl3, i64_w, i32_w]
       rfl
      refine take_ (i := 4) (N := some 30) (v := ?_) (a' := ?_) #[Y,Y,Z,Y,Y,Z,Z,Z,Z,Z,Z,Z,Z] rfl rfl (take_ofW HT_.out HW_.out (by kernel_rfl)) (fun _ _ _ h => h) (Or.inl ⟨by rfl, ?_⟩) hHeld ?_ ?_
      rotate_left
      ·rintro w' ⟨s0, s1, s2, s3, s4, s5, s6, s7⟩
       go_simp
       with_reducible rfl
      rotate_left
      ·simp only [Act.put, zl1, zl2, zl3, i64_w, i32_w]
       rfl
      refine one_ (i := 2) (N := some 28) #[Y,Y,Y,Y,Y,Z,Z,Z,Z,Z,Z,Z,Z] rfl rfl (one_of HT_.out (by kernel_rfl)) (by decide) (fun K hK => ?_)
      refine goes_ Tryd.func40 (by kernel_rfl) rfl #[.int .i64 a1_4] (by rfl) rfl rfl (by (try simp only [List.map_toArray, List.map_cons, List.map_nil]); first | done | rfl | (simp only [List.length_drop, List.length_take]; rfl)) ?_
      with_reducible refine (word_Tells.calls a1_4 t140 _ A19.out).mono ?_
      rintro e w' ⟨rfl, ⟨nd, rfl⟩⟩
      refine ⟨_, rfl, ?_⟩
      refine hK.out _ _ ⟨(blk_cell BK138.out 0).trans rfl, (blk_cell BK138.out 1).trans rfl, (blk_cell BK138.out 2).trans rfl, (blk_cell BK138.out 3).trans rfl, (blk_cell BK138.out 4).trans rfl, (blk_cell BK138.out 5).trans rfl, (blk_cell BK138.out 6).trans rfl, (blk_cell BK138.out 7).trans rfl⟩ (fun hHeld => ?_)
      clear hK K
      refine norm_ (a' := ?_) ?_ ?_
      rotate_left
      ·show Act.put _ (some 28) _ = _
       simp only [Act.put, zl1, zl2, zl3, i64_w, i32_w]
       rfl
      refine one_ (i := 5) (N := some 31) #[Y,Y,Y,Y,Y,Y,Z,Z,Z,Z,Z,Z,Z] rfl rfl (one_of HT_.out (by kernel_rfl)) (by decide) (fun K hK => ?_)
      refine goes_ Tryd.func39 (by kernel_rfl) rfl #[.int .i64 a1_4, .int .i64 14] (by rfl) rfl rfl (by (try simp only [List.map_toArray, List.map_cons, List.map_nil]); first | done | rfl | (simp only [List.length_drop, List.length_take]; rfl)) ?_
      with_reducible refine (kind_within.calls a1_4 14 true _ A20.out).mono ?_
      rintro e w' ⟨rfl, ⟨nd, rfl⟩⟩
      refine ⟨_, rfl, ?_⟩
      refine hK.out _ _ ⟨(blk_cell BK138.out 0).trans rfl, (blk_cell BK138.out 1).trans rfl, (blk_cell BK138.out 2).trans rfl, (blk_cell BK138.out 3).trans rfl, (blk_cell BK138.out 4).trans rfl, (blk_cell BK138.out 5).trans rfl, (blk_cell BK138.out 6).trans rfl, (blk_cell BK138.out 7).trans rfl⟩ (fun hHeld => ?_)
      clear hK K
      refine norm_ (a' := ?_) ?_ ?_
      rotate_left
      ·show Act.put _ (some 31) _ = _
       simp only [Act.put, zl1, zl2, zl3, i64_w, i32_w]
       rfl
      refine pure_ (i := 6) (N := some 32) (v := ?_) (a' := ?_) #[Y,Y,Y,Y,Y,Y,Y,Z,Z,Z,Z,Z,Z] rfl rfl (any_of HT_.out (by kernel_rfl)) (fun _ _ _ h => h) (Or.inl ⟨by rfl, ?_⟩) ?_ ?_
      rotate_left
      ·intro w'
       go_simp
       with_reducible rfl
      rotate_left
      ·simp only [Act.put, zl1, zl2, zl3, i64_w, i32_w]
       rfl
      refine pure_ (i := 7) (N := some 33) (v := ?_) (a' := ?_) #[Y,Y,Y,Y,Y,Y,Y,Y,Z,Z,Z,Z,Z] rfl rfl (any_of HT_.out (by kernel_rfl)) (fun _ _ _ h => h) (Or.inl ⟨by rfl, ?_⟩) ?_ ?_
      rotate_left
      ·intro w'
       go_simp
       with_reducible rfl
      rotate_left
      ·simp only [Act.put, zl1, zl2, zl3, i64_w, i32_w]
       rfl
      refine one_ (i := 8) (N := some 34) #[Y,Y,Y,Y,Y,Y,Y,Y,Y,Z,Z,Z,Z] rfl rfl (one_of HT_.out (by kernel_rfl)) (by decide) (fun K hK => ?_)
      refine Kd.R_lit_step (Kd.int .i64) _ 3 ?hg (N := 34) ?hd (xs := ([0, 0] : List Int)) (inner := [.int .i64 0, .int .i64 0]) (ok := fun _ => True) (okp := fun _ => True) ?hr ?hp (fun _ hk => hk) trivial (Below.refl _ _) (Nat.le_refl _) (by simp) ?_; (case hd => rfl); (case hg => rfl); (case hr => first | (go_simp; done) | (go_simp; rfl)); (case hp => exact (Reps.one (show Kd.M (Kd.int .i64) _ _ _ 0 [.int .i64 0] from rfl) (Reps.one (show Kd.M (Kd.int .i64) _ _ _ 0 [.int .i64 0] from rfl) (Reps.none _ _))))
      intro v143 w27 ho28 hb hg_ hnew_
      clear hg_ hnew_
      (first | rw [← Ny142.out] at ho28 | (simp only [Int.reduceToNat] at ho28; rw [← Ny142.out] at ho28))
      have HO144 := zm (Kd.R_lower ho28 (keep_size (w := w) (g := g) (row := none) (by repeat (first | (with_reducible first | exact HK.out | apply KeepBut.set_ | apply keep_drewN | apply keep_drew | apply keep_alloc | refine keep_far ?_ GW138.out _) | exact HK.out))))
      replace BK138 := zm (blk_below (g := gb138) (o := .cells #[.int .i64 a1_0, .int .i64 a1_1, .int .i64 a1_2, .int .i64 a1_3, .int .i64 a1_4, .string a1_5, .slice A1_6 l1_6.length c1_6, .bool a1_7] 33 (0, 0)) (blk_drewN (blk_drewN BK138.out _) _) hb)
      replace HK := zm (KeepBut.trans (by repeat (first | (with_reducible first | exact HK.out | apply KeepBut.set_ | apply keep_drewN | apply keep_drew | apply keep_alloc | refine keep_far ?_ GW138.out _) | exact HK.out)) (KeepBut.of_below hb g none) (.inl rfl))
      replace HB := zm (below_step (by repeat (first | (with_reducible first | exact HB.out | apply below_alloc | apply pw_below_drewN | apply below_drew1 | refine below_set ?_ (IsS26.ge HI0.out) | refine below_set ?_ GE138.out) | exact HB.out)) hb)
      replace HI0 := zm (IsS26.below (by repeat (first | (with_reducible first | exact HI0.out | apply IsS26.alloc | apply IsS26.drewN | apply IsS26.drew | refine IsS26.far ?_ NB0_138.out _) | exact HI0.out)) hb)
      clear hb ho28
      obtain ⟨Ao29, co29, eo29⟩ := Kd.R_slice HO144.out
      (first | subst eo29 | (injection eo29 with f1_ f2_ f3_; have f4_ := f1_.symm; have f5_ := f3_.symm; clear f1_ f2_ f3_; subst f4_; subst f5_))
      refine hK.out _ _ ⟨(blk_cell BK138.out 0).trans rfl, (blk_cell BK138.out 1).trans rfl, (blk_cell BK138.out 2).trans rfl, (blk_cell BK138.out 3).trans rfl, (blk_cell BK138.out 4).trans rfl, (blk_cell BK138.out 5).trans rfl, (blk_cell BK138.out 6).trans rfl, (blk_cell BK138.out 7).trans rfl⟩ (fun hHeld => ?_)
      clear hK K
      refine norm_ (a' := ?_) ?_ ?_
      rotate_left
      ·show Act.put _ (some 34) _ = _
       simp only [Act.put, zl1, zl2, zl3, i64_w, i32_w]
       rfl
      refine one_ (i := 9) (N := some 35) #[Y,Y,Y,Y,Y,Y,Y,Y,Y,Y,Z,Z,Z] rfl rfl (one_of HT_.out (by kernel_rfl)) (by decide) (fun K hK => ?_)
      refine goes_ Tryd.func41 (by kernel_rfl) rfl #[.slice A2 l2.length c2, .slice Ao29 y142.length co29] (by rfl) rfl rfl (by (try simp only [List.map_toArray, List.map_cons, List.map_nil]); first | done | rfl | (simp only [List.length_drop, List.length_take]; rfl)) ?_
      with_reducible refine (kind_is.calls k _ _ l2 _ _ y142 t145 _ ?side1 ?side2 ?side3 ?side4 A22.out).mono ?_
      (case side1 => exact Kd.C_keep 0 HR2.out (by repeat (first | (with_reducible first | exact HK.out | apply KeepBut.set_ | apply keep_drewN | apply keep_drew | apply keep_alloc | refine keep_far ?_ GW138.out _) | exact HK.out)) hf2)
      (case side2 => exact HC2.out)
      (case side3 => repeat (first | exact (Kd.R_reads' HO144.out).2.2 | (with_reducible refine Kd.C_alloc ?_ _) | (with_reducible refine Kd.C_drewN ?_ _) | (with_reducible refine Kd.C_drew ?_)))
      (case side4 => exact (Kd.R_reads' HO144.out).2.1)
      rintro e w' ⟨rfl, ⟨nd, rfl⟩⟩
      refine ⟨_, rfl, ?_⟩
      refine hK.out _ _ ⟨(blk_cell BK138.out 0).trans rfl, (blk_cell BK138.out 1).trans rfl, (blk_cell BK138.out 2).trans rfl, (blk_cell BK138.out 3).trans rfl, (blk_cell BK138.out 4).trans rfl, (blk_cell BK138.out 5).trans rfl, (blk_cell BK138.out 6).trans rfl, (blk_cell BK138.out 7).trans rfl⟩ (fun hHeld => ?_)
      clear hK K
      refine norm_ (a' := ?_) ?_ ?_
      rotate_left
      ·show Act.put _ (some 35) _ = _
       simp only [Act.put, zl1, zl2, zl3, i64_w, i32_w]
       rfl
      refine pure_ (i := 10) (N := some 36) (v := ?_) (a' := ?_) #[Y,Y,Y,Y,Y,Y,Y,Y,Y,Y,Y,Z,Z] rfl rfl (any_of HT_.out (by kernel_rfl)) (fun _ _ _ h => h) (Or.inl ⟨by rfl, ?_⟩) ?_ ?_
      rotate_left
      ·intro w'
       go_simp
       with_reducible rfl
      rotate_left
      ·simp only [Act.put, zl1, zl2, zl3, i64_w, i32_w]
       rfl
      refine pure_ (i := 11) (N := some 6) (v := ?_) (a' := ?_) #[Y,Y,Y,Y,Y,Y,Y,Y,Y,Y,Y,Y,Z] rfl rfl (any_of HT_.out (by kernel_rfl)) (fun _ _ _ h => h) (Or.inl ⟨by rfl, ?_⟩) ?_ ?_
      rotate_left
      ·intro w'
       go_simp
       with_reducible rfl
      rotate_left
      ·simp only [Act.put, zl1, zl2, zl3, i64_w, i32_w]
       rfl
      refine pure_ (i := 12) (N := some 7) (v := ?_) (a' := ?_) #[Y,Y,Y,Y,Y,Y,Y,Y,Y,Y,Y,Y,Y] rfl rfl (any_of HT_.out (by kernel_rfl)) (fun _ _ _ h => h) (Or.inl ⟨by rfl, ?_⟩) ?_ ?_
      rotate_left
      ·intro w'
       go_simp
       with_reducible rfl
      rotate_left
      ·simp only [Act.put, zl1, zl2, zl3, i64_w, i32_w]
       rfl
      refine done_ (done_of HT_.out (by kernel_rfl)) ?_
      try go_wp2
      go_ret2
      exact ⟨by first | rfl | (simp [errW_none, errW_some] <;> rfl) | (simp [*, errW_none, errW_some] <;> rfl), by repeat (first | (with_reducible first | exact HI0.out | apply IsS26.alloc | apply IsS26.drewN | apply IsS26.drew | refine IsS26.far ?_ NB0_138.out _) | exact HI0.out), by repeat (first | (with_reducible first | exact HB.out | apply below_alloc | apply pw_below_drewN | apply below_drew1 | refine below_set ?_ (IsS26.ge HI0.out) | refine below_set ?_ GE138.out) | exact HB.out), by repeat (first | (with_reducible first | exact HK.out | apply KeepBut.set_ | apply keep_drewN | apply keep_drew | apply keep_alloc | refine keep_far ?_ GW138.out _) | exact HK.out)⟩
     ·replace c21 := Bool.eq_false_iff.mpr c21
      subst c21
      have H1 : (some (t140, false)) = some (r1, r2) := by rw [if_neg (show ¬ (false = true) by decide)] at H; exact H
      clear H
      have H := H1
      clear H1
      simp only [Option.some.injEq, Prod.mk.injEq] at H
      obtain ⟨rfl, rfl⟩ := H
      go_enter Tryd.func34, Tryd.ntmps34
      try go_wp2_with (first | ((with_reducible refine gate_dst (N := 4) rfl ?_); (try (refine gate_guard (by rfl) ?_; dsimp only)); refine box_event ?hg (N := 4) ?hd (cs := #[.int .i64 a1_0, .int .i64 a1_1, .int .i64 a1_2, .int .i64 a1_3, .int .i64 a1_4, .string a1_5, .slice A1_6 l1_6.length c1_6, .bool a1_7]) (t := 33) ?hr ?_; (case hd => rfl); (case hg => rfl); (case hr => first | (go_simp; done) | (go_simp; rfl)); intro gb138 hg w30 hbox hb; have n0_ := zm (IsS26.below (by repeat (first | (with_reducible first | exact HI0.out | apply IsS26.alloc | apply IsS26.drewN | apply IsS26.drew) | exact HI0.out)) hb); have n1_ := zm (KeepBut.trans (by repeat (first | (with_reducible first | exact HK.out | apply KeepBut.set_ | apply keep_drewN | apply keep_drew | apply keep_alloc) | exact HK.out)) (KeepBut.of_below hb g none) (.inl rfl)); have n2_ := zm (below_step (by repeat (first | (with_reducible first | exact HB.out | apply below_alloc | apply pw_below_drewN | apply below_drew1 | refine below_set ?_ (IsS26.ge HI0.out)) | exact HB.out)) hb); have n3_ := zm (hbox); have n4_ := zm ((by rw [hg]; exact (keep_size (w := w) (g := g) (row := none) (by repeat (first | (with_reducible first | exact HK.out | apply KeepBut.set_ | apply keep_drewN | apply keep_drew | apply keep_alloc) | exact HK.out))) : w.heap.size ≤ gb138)); have n5_ := zm ((Nat.le_trans HW0.out (by rw [hg]; exact (keep_size (w := w) (g := g) (row := none) (by repeat (first | (with_reducible first | exact HK.out | apply KeepBut.set_ | apply keep_drewN | apply keep_drew | apply keep_alloc) | exact HK.out))) : w.heap.size ≤ gb138) : w0.heap.size ≤ gb138)); have n6_ := zm ((by rw [hg]; exact Nat.ne_of_lt (IsS26.lt (show IsS26 w0 _ g s0_0 s0_1 s0_2 from by repeat (first | (with_reducible first | exact HI0.out | apply IsS26.alloc | apply IsS26.drewN | apply IsS26.drew) | exact HI0.out))) : g ≠ gb138)); have n7_ := zm ((by rw [hg]; exact Nat.ne_of_gt (IsS26.lt (show IsS26 w0 _ g s0_0 s0_1 s0_2 from by repeat (first | (with_reducible first | exact HI0.out | apply IsS26.alloc | apply IsS26.drewN | apply IsS26.drew) | exact HI0.out))) : gb138 ≠ g)); clear HI0; clear HK; clear HB; have HI0 := n0_; have HK := n1_; have HB := n2_; have BK138 := n3_; have GW138 := n4_; have GE138 := n5_; have NB0_138 := n6_; have NB138_0 := n7_; clear n0_ n1_ n2_ n3_ n4_ n5_ n6_ n7_; clear hb hbox hg; have hnb31 := NB138_0.out; have hnc31 := NB0_138.out; have hcz32_0 : w30.cell? ⟨gb138, 0, none⟩ = some (.int .i64 a1_0) := (blk_cell BK138.out 0).trans rfl; have hcz32_1 : w30.cell? ⟨gb138, 1, none⟩ = some (.int .i64 a1_1) := (blk_cell BK138.out 1).trans rfl; have hcz32_2 : w30.cell? ⟨gb138, 2, none⟩ = some (.int .i64 a1_2) := (blk_cell BK138.out 2).trans rfl; have hcz32_3 : w30.cell? ⟨gb138, 3, none⟩ = some (.int .i64 a1_3) := (blk_cell BK138.out 3).trans rfl; have hcz32_4 : w30.cell? ⟨gb138, 4, none⟩ = some (.int .i64 a1_4) := (blk_cell BK138.out 4).trans rfl; have hcz32_5 : w30.cell? ⟨gb138, 5, none⟩ = some (.string a1_5) := (blk_cell BK138.out 5).trans rfl; have hcz32_6 : w30.cell? ⟨gb138, 6, none⟩ = some (.slice A1_6 l1_6.length c1_6) := (blk_cell BK138.out 6).trans rfl; have hcz32_7 : w30.cell? ⟨gb138, 7, none⟩ = some (.bool a1_7) := (blk_cell BK138.out 7).trans rfl; have hfz32_0 := blk_frozen BK138.out 0; have hfz32_1 := blk_frozen BK138.out 1; have hfz32_2 := blk_frozen BK138.out 2; have hfz32_3 := blk_frozen BK138.out 3; have hfz32_4 := blk_frozen BK138.out 4; have hfz32_5 := blk_frozen BK138.out 5; have hfz32_6 := blk_frozen BK138.out 6; have hfz32_7 := blk_frozen BK138.out 7))
      replace BK138 := zm (blk_drew BK138.out)
      replace HI0 := zm (IsS26.drew HI0.out)
      replace HK := zm (keep_drew HK.out)
      replace HB := zm (below_drew1 HB.out)
      refine start_ (n := 13) (S := fun w' => w'.cell? ⟨gb138, 0, none⟩ = some (.int .i64 a1_0) ∧ w'.cell? ⟨gb138, 1, none⟩ = some (.int .i64 a1_1) ∧ w'.cell? ⟨gb138, 2, none⟩ = some (.int .i64 a1_2) ∧ w'.cell? ⟨gb138, 3, none⟩ = some (.int .i64 a1_3) ∧ w'.cell? ⟨gb138, 4, none⟩ = some (.int .i64 a1_4) ∧ w'.cell? ⟨gb138, 5, none⟩ = some (.string a1_5) ∧ w'.cell? ⟨gb138, 6, none⟩ = some (.slice A1_6 l1_6.length c1_6) ∧ w'.cell? ⟨gb138, 7, none⟩ = some (.bool a1_7)) (ds := []) #[Z,Z,Z,Z,Z,Z,Z,Z,Z,Z,Z,Z,Z] (by kernel_rfl) rfl rfl ⟨(blk_cell BK138.out 0).trans rfl, (blk_cell BK138.out 1).trans rfl, (blk_cell BK138.out 2).trans rfl, (blk_cell BK138.out 3).trans rfl, (blk_cell BK138.out 4).trans rfl, (blk_cell BK138.out 5).trans rfl, (blk_cell BK138.out 6).trans rfl, (blk_cell BK138.out 7).trans rfl⟩ (fun hHeld => ?_); refine with_tabW kind_result.tab9 kind_result.bits9 (fun HT_ HW_ => ?_)
      generalize w30.drew = w33 at BK138 HI0 HK HB hHeld ⊢
      refine pure_ (i := 0) (N := some 26) (v := ?_) (a' := ?_) #[Y,Z,Z,Z,Z,Z,Z,Z,Z,Z,Z,Z,Z] rfl rfl (any_of HT_.out (by kernel_rfl)) (fun _ _ _ h => h) (Or.inl ⟨by rfl, ?_⟩) ?_ ?_
      rotate_left
      ·intro w'
       go_simp
       with_reducible rfl
      rotate_left
      ·simp only [Act.put, zl1, zl2, zl3, i64_w, i32_w]
       rfl
      refine pure_ (i := 3) (N := some 29) (v := ?_) (a' := ?_) #[Y,Z,Z,Y,Z,Z,Z,Z,Z,Z,Z,Z,Z] rfl rfl (any_of HT_.out (by kernel_rfl)) (fun _ _ _ h => h) (Or.inl ⟨by rfl, ?_⟩) ?_ ?_
      rotate_left
      ·intro w'
       go_simp
       with_reducible rfl
      rotate_left
      ·simp only [Act.put, zl1, zl2, zl3, i64_w, i32_w]
       rfl
      refine take_ (i := 1) (N := some 27) (v := ?_) (a' := ?_) #[Y,Y,Z,Y,Z,Z,Z,Z,Z,Z,Z,Z,Z] rfl rfl (take_ofW HT_.out HW_.out (by kernel_rfl)) (fun _ _ _ h => h) (Or.inl ⟨by rfl, ?_⟩) hHeld ?_ ?_
      rotate_left
      ·rintro w' ⟨s0, s1, s2, s3, s4, s5, s6, s7⟩
       go_simp
       with_reducible rfl
      rotate_left
      ·simp only [Act.put, zl1, zl2, zl3, i64_w, i32_w]
       rfl
      refine take_ (i := 4) (N := some 30) (v := ?_) (a' := ?_) #[Y,Y,Z,Y,Y,Z,Z,Z,Z,Z,Z,Z,Z] rfl rfl (take_ofW HT_.out HW_.out (by kernel_rfl)) (fun _ _ _ h => h) (Or.inl ⟨by rfl, ?_⟩) hHeld ?_ ?_
      rotate_left
      ·rintro w' ⟨s0, s1, s2, s3, s4, s5, s6, s7⟩
       go_simp
       with_reducible rfl
      rotate_left
      ·simp only [Act.put, zl1, zl2, zl3, i64_w, i32_w]
       rfl
      refine one_ (i := 2) (N := some 28) #[Y,Y,Y,Y,Y,Z,Z,Z,Z,Z,Z,Z,Z] rfl rfl (one_of HT_.out (by kernel_rfl)) (by decide) (fun K hK => ?_)
      refine goes_ Tryd.func40 (by kernel_rfl) rfl #[.int .i64 a1_4] (by rfl) rfl rfl (by (try simp only [List.map_toArray, List.map_cons, List.map_nil]); first | done | rfl | (simp only [List.length_drop, List.length_take]; rfl)) ?_
      with_reducible refine (word_Tells.calls a1_4 t140 _ A19.out).mono ?_
      rintro e w' ⟨rfl, ⟨nd, rfl⟩⟩
      refine ⟨_, rfl, ?_⟩
      refine hK.out _ _ ⟨(blk_cell BK138.out 0).trans rfl, (blk_cell BK138.out 1).trans rfl, (blk_cell BK138.out 2).trans rfl, (blk_cell BK138.out 3).trans rfl, (blk_cell BK138.out 4).trans rfl, (blk_cell BK138.out 5).trans rfl, (blk_cell BK138.out 6).trans rfl, (blk_cell BK138.out 7).trans rfl⟩ (fun hHeld => ?_)
      clear hK K
      refine norm_ (a' := ?_) ?_ ?_
      rotate_left
      ·show Act.put _ (some 28) _ = _
       simp only [Act.put, zl1, zl2, zl3, i64_w, i32_w]
       rfl
      refine one_ (i := 5) (N := some 31) #[Y,Y,Y,Y,Y,Y,Z,Z,Z,Z,Z,Z,Z] rfl rfl (one_of HT_.out (by kernel_rfl)) (by decide) (fun K hK => ?_)
      refine goes_ Tryd.func39 (by kernel_rfl) rfl #[.int .i64 a1_4, .int .i64 14] (by rfl) rfl rfl (by (try simp only [List.map_toArray, List.map_cons, List.map_nil]); first | done | rfl | (simp only [List.length_drop, List.length_take]; rfl)) ?_
      with_reducible refine (kind_within.calls a1_4 14 false _ A20.out).mono ?_
      rintro e w' ⟨rfl, ⟨nd, rfl⟩⟩
      refine ⟨_, rfl, ?_⟩
      refine hK.out _ _ ⟨(blk_cell BK138.out 0).trans rfl, (blk_cell BK138.out 1).trans rfl, (blk_cell BK138.out 2).trans rfl, (blk_cell BK138.out 3).trans rfl, (blk_cell BK138.out 4).trans rfl, (blk_cell BK138.out 5).trans rfl, (blk_cell BK138.out 6).trans rfl, (blk_cell BK138.out 7).trans rfl⟩ (fun hHeld => ?_)
      clear hK K
      refine norm_ (a' := ?_) ?_ ?_
      rotate_left
      ·show Act.put _ (some 31) _ = _
       simp only [Act.put, zl1, zl2, zl3, i64_w, i32_w]
       rfl
      refine pure_ (i := 6) (N := some 32) (v := ?_) (a' := ?_) #[Y,Y,Y,Y,Y,Y,Y,Z,Z,Z,Z,Z,Z] rfl rfl (any_of HT_.out (by kernel_rfl)) (fun _ _ _ h => h) (Or.inl ⟨by rfl, ?_⟩) ?_ ?_
      rotate_left
      ·intro w'
       go_simp
       with_reducible rfl
      rotate_left
      ·simp only [Act.put, zl1, zl2, zl3, i64_w, i32_w]
       rfl
      refine pure_ (i := 7) (N := some 33) (v := undef) (a' := ?_) #[Y,Y,Y,Y,Y,Y,Y,Y,Z,Z,Z,Z,Z] rfl rfl (any_of HT_.out (by kernel_rfl)) (fun _ _ _ h => h) (Or.inr ⟨by rfl, rfl⟩) ?_ ?_
      rotate_left
      ·simp only [Act.put, zl1, zl2, zl3, i64_w, i32_w]
       rfl
      refine pure_ (i := 8) (N := some 34) (v := undef) (a' := ?_) #[Y,Y,Y,Y,Y,Y,Y,Y,Y,Z,Z,Z,Z] rfl rfl (any_of HT_.out (by kernel_rfl)) (fun _ _ _ h => h) (Or.inr ⟨by rfl, rfl⟩) ?_ ?_
      rotate_left
      ·simp only [Act.put, zl1, zl2, zl3, i64_w, i32_w]
       rfl
      refine pure_ (i := 9) (N := some 35) (v := undef) (a' := ?_) #[Y,Y,Y,Y,Y,Y,Y,Y,Y,Y,Z,Z,Z] rfl rfl (any_of HT_.out (by kernel_rfl)) (fun _ _ _ h => h) (Or.inr ⟨by rfl, rfl⟩) ?_ ?_
      rotate_left
      ·simp only [Act.put, zl1, zl2, zl3, i64_w, i32_w]
       rfl
      refine pure_ (i := 10) (N := some 36) (v := ?_) (a' := ?_) #[Y,Y,Y,Y,Y,Y,Y,Y,Y,Y,Y,Z,Z] rfl rfl (any_of HT_.out (by kernel_rfl)) (fun _ _ _ h => h) (Or.inl ⟨by rfl, ?_⟩) ?_ ?_
      rotate_left
      ·intro w'
       go_simp
       with_reducible rfl
      rotate_left
      ·simp only [Act.put, zl1, zl2, zl3, i64_w, i32_w]
       rfl
      refine pure_ (i := 11) (N := some 6) (v := ?_) (a' := ?_) #[Y,Y,Y,Y,Y,Y,Y,Y,Y,Y,Y,Y,Z] rfl rfl (any_of HT_.out (by kernel_rfl)) (fun _ _ _ h => h) (Or.inl ⟨by rfl, ?_⟩) ?_ ?_
      rotate_left
      ·intro w'
       go_simp
       with_reducible rfl
      rotate_left
      ·simp only [Act.put, zl1, zl2, zl3, i64_w, i32_w]
       rfl
      refine pure_ (i := 12) (N := some 7) (v := ?_) (a' := ?_) #[Y,Y,Y,Y,Y,Y,Y,Y,Y,Y,Y,Y,Y] rfl rfl (any_of HT_.out (by kernel_rfl)) (fun _ _ _ h => h) (Or.inl ⟨by rfl, ?_⟩) ?_ ?_
      rotate_left
      ·intro w'
       go_simp
       with_reducible rfl
      rotate_left
      ·simp only [Act.put, zl1, zl2, zl3, i64_w, i32_w]
       rfl
      refine done_ (done_of HT_.out (by kernel_rfl)) ?_
      try go_wp2
      go_ret2
      exact ⟨by first | rfl | (simp [errW_none, errW_some] <;> rfl) | (simp [*, errW_none, errW_some] <;> rfl), by repeat (first | (with_reducible first | exact HI0.out | apply IsS26.alloc | apply IsS26.drewN | apply IsS26.drew | refine IsS26.far ?_ NB0_138.out _) | exact HI0.out), by repeat (first | (with_reducible first | exact HB.out | apply below_alloc | apply pw_below_drewN | apply below_drew1 | refine below_set ?_ (IsS26.ge HI0.out) | refine below_set ?_ GE138.out) | exact HB.out), by repeat (first | (with_reducible first | exact HK.out | apply KeepBut.set_ | apply keep_drewN | apply keep_drew | apply keep_alloc | refine keep_far ?_ GW138.out _) | exact HK.out)⟩
    ·rw [if_neg c18] at H
     have c18b0 : (a1_0 == 3) = false := beq_eq_false_iff_ne.mpr c18
     have c18b1 : (a1_0 != 3) = true := bne_iff_ne.mpr c18
     by_cases c34 : a1_0 = 4
     ·rw [if_pos c34] at H
      have c34b0 : (a1_0 == 4) = true := beq_iff_eq.mpr c34
      have c34b1 : (a1_0 != 4) = false := bne_eq_false_iff_eq.mpr c34
      clear c34
      obtain ⟨y146, hy146⟩ : ∃ y_ : List Int, y_ = (([1] : List Int)) := ⟨_, rfl⟩
      replace H : ((kind_is.f k l2 y146).bind fun t149 => (some (1, t149))) = some (r1, r2) := by first | (rw [hy146]; with_reducible exact H) | (have H2_ := (Option.bind_some _ _).symm.trans H; rw [hy146]; with_reducible exact H2_) | (have H2_ := (Option.bind_some _ _).symm.trans H; with_reducible exact H2_) | with_reducible exact H | (rw [hy146]; exact H) | exact H
      have Ny146 := zm hy146
      clear hy146
      replace H := Option.bind_eq_some_iff.mp H
      obtain ⟨t149, A350, H⟩ := H
      replace H : (some (1, t149)) = some (r1, r2) := H
      have A35 := zm A350
      clear A350
      simp only [Option.some.injEq, Prod.mk.injEq] at H
      obtain ⟨rfl, rfl⟩ := H
      go_enter Tryd.func34, Tryd.ntmps34
      go_wp2_with (first | ((with_reducible refine gate_dst (N := 4) rfl ?_); (try (refine gate_guard (by rfl) ?_; dsimp only)); refine box_event ?hg (N := 4) ?hd (cs := #[.int .i64 a1_0, .int .i64 a1_1, .int .i64 a1_2, .int .i64 a1_3, .int .i64 a1_4, .string a1_5, .slice A1_6 l1_6.length c1_6, .bool a1_7]) (t := 33) ?hr ?_; (case hd => rfl); (case hg => rfl); (case hr => first | (go_simp; done) | (go_simp; rfl)); intro gb138 hg w36 hbox hb; have n0_ := zm (IsS26.below (by repeat (first | (with_reducible first | exact HI0.out | apply IsS26.alloc | apply IsS26.drewN | apply IsS26.drew) | exact HI0.out)) hb); have n1_ := zm (KeepBut.trans (by repeat (first | (with_reducible first | exact HK.out | apply KeepBut.set_ | apply keep_drewN | apply keep_drew | apply keep_alloc) | exact HK.out)) (KeepBut.of_below hb g none) (.inl rfl)); have n2_ := zm (below_step (by repeat (first | (with_reducible first | exact HB.out | apply below_alloc | apply pw_below_drewN | apply below_drew1 | refine below_set ?_ (IsS26.ge HI0.out)) | exact HB.out)) hb); have n3_ := zm (hbox); have n4_ := zm ((by rw [hg]; exact (keep_size (w := w) (g := g) (row := none) (by repeat (first | (with_reducible first | exact HK.out | apply KeepBut.set_ | apply keep_drewN | apply keep_drew | apply keep_alloc) | exact HK.out))) : w.heap.size ≤ gb138)); have n5_ := zm ((Nat.le_trans HW0.out (by rw [hg]; exact (keep_size (w := w) (g := g) (row := none) (by repeat (first | (with_reducible first | exact HK.out | apply KeepBut.set_ | apply keep_drewN | apply keep_drew | apply keep_alloc) | exact HK.out))) : w.heap.size ≤ gb138) : w0.heap.size ≤ gb138)); have n6_ := zm ((by rw [hg]; exact Nat.ne_of_lt (IsS26.lt (show IsS26 w0 _ g s0_0 s0_1 s0_2 from by repeat (first | (with_reducible first | exact HI0.out | apply IsS26.alloc | apply IsS26.drewN | apply IsS26.drew) | exact HI0.out))) : g ≠ gb138)); have n7_ := zm ((by rw [hg]; exact Nat.ne_of_gt (IsS26.lt (show IsS26 w0 _ g s0_0 s0_1 s0_2 from by repeat (first | (with_reducible first | exact HI0.out | apply IsS26.alloc | apply IsS26.drewN | apply IsS26.drew) | exact HI0.out))) : gb138 ≠ g)); clear HI0; clear HK; clear HB; have HI0 := n0_; have HK := n1_; have HB := n2_; have BK138 := n3_; have GW138 := n4_; have GE138 := n5_; have NB0_138 := n6_; have NB138_0 := n7_; clear n0_ n1_ n2_ n3_ n4_ n5_ n6_ n7_; clear hb hbox hg; have hnb37 := NB138_0.out; have hnc37 := NB0_138.out; have hcz38_0 : w36.cell? ⟨gb138, 0, none⟩ = some (.int .i64 a1_0) := (blk_cell BK138.out 0).trans rfl; have hcz38_1 : w36.cell? ⟨gb138, 1, none⟩ = some (.int .i64 a1_1) := (blk_cell BK138.out 1).trans rfl; have hcz38_2 : w36.cell? ⟨gb138, 2, none⟩ = some (.int .i64 a1_2) := (blk_cell BK138.out 2).trans rfl; have hcz38_3 : w36.cell? ⟨gb138, 3, none⟩ = some (.int .i64 a1_3) := (blk_cell BK138.out 3).trans rfl; have hcz38_4 : w36.cell? ⟨gb138, 4, none⟩ = some (.int .i64 a1_4) := (blk_cell BK138.out 4).trans rfl; have hcz38_5 : w36.cell? ⟨gb138, 5, none⟩ = some (.string a1_5) := (blk_cell BK138.out 5).trans rfl; have hcz38_6 : w36.cell? ⟨gb138, 6, none⟩ = some (.slice A1_6 l1_6.length c1_6) := (blk_cell BK138.out 6).trans rfl; have hcz38_7 : w36.cell? ⟨gb138, 7, none⟩ = some (.bool a1_7) := (blk_cell BK138.out 7).trans rfl; have hfz38_0 := blk_frozen BK138.out 0; have hfz38_1 := blk_frozen BK138.out 1; have hfz38_2 := blk_frozen BK138.out 2; have hfz38_3 := blk_frozen BK138.out 3; have hfz38_4 := blk_frozen BK138.out 4; have hfz38_5 := blk_frozen BK138.out 5; have hfz38_6 := blk_frozen BK138.out 6; have hfz38_7 := blk_frozen BK138.out 7) | ((with_reducible refine gate_dst (N := 40) rfl ?_); (try (refine gate_guard (by rfl) ?_; dsimp only)); refine Kd.R_lit (Kd.int .i64) _ 3 ?hg (N := 40) ?hd (xs := ([1] : List Int)) (inner := [.int .i64 1]) (ok := fun _ => True) (okp := fun _ => True) ?hr ?hp (fun _ hk => hk) trivial (Below.refl _ _) (Nat.le_refl _) (by simp) ?_; (case hd => rfl); (case hg => rfl); (case hr => first | (go_simp; done) | (go_simp; rfl)); (case hp => exact (Reps.one (show Kd.M (Kd.int .i64) _ _ _ 1 [.int .i64 1] from rfl) (Reps.none _ _))); intro v147 w39 ho40 hb hg_ hnew_; clear hg_ hnew_; (first | rw [← Ny146.out] at ho40 | (simp only [Int.reduceToNat] at ho40; rw [← Ny146.out] at ho40)); have n0_ := zm (Kd.R_lower ho40 (keep_size (w := w) (g := g) (row := none) (by repeat (first | (with_reducible first | exact HK.out | apply KeepBut.set_ | apply keep_drewN | apply keep_drew | apply keep_alloc | refine keep_far ?_ GW138.out _) | exact HK.out)))); have n1_ := zm (IsS26.below (by repeat (first | (with_reducible first | exact HI0.out | apply IsS26.alloc | apply IsS26.drewN | apply IsS26.drew | refine IsS26.far ?_ NB0_138.out _) | exact HI0.out)) hb); have n2_ := zm (blk_below (g := gb138) (o := .cells #[.int .i64 a1_0, .int .i64 a1_1, .int .i64 a1_2, .int .i64 a1_3, .int .i64 a1_4, .string a1_5, .slice A1_6 l1_6.length c1_6, .bool a1_7] 33 (0, 0)) (by (with_reducible repeat (first | refine blk_drewN ?_ _ | refine blk_drew ?_ | refine blk_alloc ?_ _)); exact BK138.out) hb); have n3_ := zm (KeepBut.trans (by repeat (first | (with_reducible first | exact HK.out | apply KeepBut.set_ | apply keep_drewN | apply keep_drew | apply keep_alloc | refine keep_far ?_ GW138.out _) | exact HK.out)) (KeepBut.of_below hb g none) (.inl rfl)); have n4_ := zm (below_step (by repeat (first | (with_reducible first | exact HB.out | apply below_alloc | apply pw_below_drewN | apply below_drew1 | refine below_set ?_ (IsS26.ge HI0.out) | refine below_set ?_ GE138.out) | exact HB.out)) hb); clear HI0; clear BK138; clear HK; clear HB; have HO148 := n0_; have HI0 := n1_; have BK138 := n2_; have HK := n3_; have HB := n4_; clear n0_ n1_ n2_ n3_ n4_; clear hb ho40; obtain ⟨Ao41, co41, eo41⟩ := Kd.R_slice HO148.out; subst eo41) | ((with_reducible refine gate_callee (f := 41) rfl ?_); refine goesL_ (some 41) rfl rfl Tryd.func41 (by kernel_rfl) rfl #[.slice A2 l2.length c2, .slice Ao41 y146.length co41] rfl (by (try simp only [List.map_toArray, List.map_cons, List.map_nil]); first | done | rfl | (simp only [List.length_drop, List.length_take]; rfl)) ?_; (with_reducible refine (kind_is.calls k _ _ l2 _ _ y146 t149 _ ?side1 ?side2 ?side3 ?side4 A35.out).mono ?_); (case side1 => exact Kd.C_keep 0 HR2.out (by repeat (first | (with_reducible first | exact HK.out | apply KeepBut.set_ | apply keep_drewN | apply keep_drew | apply keep_alloc | refine keep_far ?_ GW138.out _) | exact HK.out)) hf2); (case side2 => exact HC2.out); (case side3 => repeat (first | exact (Kd.R_reads' HO148.out).2.2 | (with_reducible refine Kd.C_alloc ?_ _) | (with_reducible refine Kd.C_drewN ?_ _) | (with_reducible refine Kd.C_drew ?_))); (case side4 => exact (Kd.R_reads' HO148.out).2.1); rintro e w' ⟨rfl, ⟨nd, rfl⟩⟩; refine ⟨_, rfl, ?_⟩))
      go_ret2
      exact ⟨by first | rfl | (simp [errW_none, errW_some] <;> rfl) | (simp [*, errW_none, errW_some] <;> rfl), by repeat (first | (with_reducible first | exact HI0.out | apply IsS26.alloc | apply IsS26.drewN | apply IsS26.drew | refine IsS26.far ?_ NB0_138.out _) | exact HI0.out), by repeat (first | (with_reducible first | exact HB.out | apply below_alloc | apply pw_below_drewN | apply below_drew1 | refine below_set ?_ (IsS26.ge HI0.out) | refine below_set ?_ GE138.out) | exact HB.out), by repeat (first | (with_reducible first | exact HK.out | apply KeepBut.set_ | apply keep_drewN | apply keep_drew | apply keep_alloc | refine keep_far ?_ GW138.out _) | exact HK.out)⟩
     ·rw [if_neg c34] at H
      have c34b0 : (a1_0 == 4) = false := beq_eq_false_iff_ne.mpr c34
      have c34b1 : (a1_0 != 4) = true := bne_iff_ne.mpr c34
      by_cases c42 : a1_0 = 5
      ·rw [if_pos c42] at H
       have c42b0 : (a1_0 == 5) = true := beq_iff_eq.mpr c42
       have c42b1 : (a1_0 != 5) = false := bne_eq_false_iff_eq.mpr c42
       clear c42
       obtain ⟨y150, hy150⟩ : ∃ y_ : List Int, y_ = (([2, 2] : List Int)) := ⟨_, rfl⟩
       replace H : ((kind_is.f k l2 y150).bind fun t153 => (some (2, t153))) = some (r1, r2) := by first | (rw [hy150]; with_reducible exact H) | (have H2_ := (Option.bind_some _ _).symm.trans H; rw [hy150]; with_reducible exact H2_) | (have H2_ := (Option.bind_some _ _).symm.trans H; with_reducible exact H2_) | with_reducible exact H | (rw [hy150]; exact H) | exact H
       have Ny150 := zm hy150
       clear hy150
       replace H := Option.bind_eq_some_iff.mp H
       obtain ⟨t153, A430, H⟩ := H
       replace H : (some (2, t153)) = some (r1, r2) := H
       have A43 := zm A430
       clear A430
       simp only [Option.some.injEq, Prod.mk.injEq] at H
       obtain ⟨rfl, rfl⟩ := H
       go_enter Tryd.func34, Tryd.ntmps34
       go_wp2_with (first | ((with_reducible refine gate_dst (N := 4) rfl ?_); (try (refine gate_guard (by rfl) ?_; dsimp only)); refine box_event ?hg (N := 4) ?hd (cs := #[.int .i64 a1_0, .int .i64 a1_1, .int .i64 a1_2, .int .i64 a1_3, .int .i64 a1_4, .string a1_5, .slice A1_6 l1_6.length c1_6, .bool a1_7]) (t := 33) ?hr ?_; (case hd => rfl); (case hg => rfl); (case hr => first | (go_simp; done) | (go_simp; rfl)); intro gb138 hg w44 hbox hb; have n0_ := zm (IsS26.below (by repeat (first | (with_reducible first | exact HI0.out | apply IsS26.alloc | apply IsS26.drewN | apply IsS26.drew) | exact HI0.out)) hb); have n1_ := zm (KeepBut.trans (by repeat (first | (with_reducible first | exact HK.out | apply KeepBut.set_ | apply keep_drewN | apply keep_drew | apply keep_alloc) | exact HK.out)) (KeepBut.of_below hb g none) (.inl rfl)); have n2_ := zm (below_step (by repeat (first | (with_reducible first | exact HB.out | apply below_alloc | apply pw_below_drewN | apply below_drew1 | refine below_set ?_ (IsS26.ge HI0.out)) | exact HB.out)) hb); have n3_ := zm (hbox); have n4_ := zm ((by rw [hg]; exact (keep_size (w := w) (g := g) (row := none) (by repeat (first | (with_reducible first | exact HK.out | apply KeepBut.set_ | apply keep_drewN | apply keep_drew | apply keep_alloc) | exact HK.out))) : w.heap.size ≤ gb138)); have n5_ := zm ((Nat.le_trans HW0.out (by rw [hg]; exact (keep_size (w := w) (g := g) (row := none) (by repeat (first | (with_reducible first | exact HK.out | apply KeepBut.set_ | apply keep_drewN | apply keep_drew | apply keep_alloc) | exact HK.out))) : w.heap.size ≤ gb138) : w0.heap.size ≤ gb138)); have n6_ := zm ((by rw [hg]; exact Nat.ne_of_lt (IsS26.lt (show IsS26 w0 _ g s0_0 s0_1 s0_2 from by repeat (first | (with_reducible first | exact HI0.out | apply IsS26.alloc | apply IsS26.drewN | apply IsS26.drew) | exact HI0.out))) : g ≠ gb138)); have n7_ := zm ((by rw [hg]; exact Nat.ne_of_gt (IsS26.lt (show IsS26 w0 _ g s0_0 s0_1 s0_2 from by repeat (first | (with_reducible first | exact HI0.out | apply IsS26.alloc | apply IsS26.drewN | apply IsS26.drew) | exact HI0.out))) : gb138 ≠ g)); clear HI0; clear HK; clear HB; have HI0 := n0_; have HK := n1_; have HB := n2_; have BK138 := n3_; have GW138 := n4_; have GE138 := n5_; have NB0_138 := n6_; have NB138_0 := n7_; clear n0_ n1_ n2_ n3_ n4_ n5_ n6_ n7_; clear hb hbox hg; have hnb45 := NB138_0.out; have hnc45 := NB0_138.out; have hcz46_0 : w44.cell? ⟨gb138, 0, none⟩ = some (.int .i64 a1_0) := (blk_cell BK138.out 0).trans rfl; have hcz46_1 : w44.cell? ⟨gb138, 1, none⟩ = some (.int .i64 a1_1) := (blk_cell BK138.out 1).trans rfl; have hcz46_2 : w44.cell? ⟨gb138, 2, none⟩ = some (.int .i64 a1_2) := (blk_cell BK138.out 2).trans rfl; have hcz46_3 : w44.cell? ⟨gb138, 3, none⟩ = some (.int .i64 a1_3) := (blk_cell BK138.out 3).trans rfl; have hcz46_4 : w44.cell? ⟨gb138, 4, none⟩ = some (.int .i64 a1_4) := (blk_cell BK138.out 4).trans rfl; have hcz46_5 : w44.cell? ⟨gb138, 5, none⟩ = some (.string a1_5) := (blk_cell BK138.out 5).trans rfl; have hcz46_6 : w44.cell? ⟨gb138, 6, none⟩ = some (.slice A1_6 l1_6.length c1_6) := (blk_cell BK138.out 6).trans rfl; have hcz46_7 : w44.cell? ⟨gb138, 7, none⟩ = some (.bool a1_7) := (blk_cell BK138.out 7).trans rfl; have hfz46_0 := blk_frozen BK138.out 0; have hfz46_1 := blk_frozen BK138.out 1; have hfz46_2 := blk_frozen BK138.out 2; have hfz46_3 := blk_frozen BK138.out 3; have hfz46_4 := blk_frozen BK138.out 4; have hfz46_5 := blk_frozen BK138.out 5; have hfz46_6 := blk_frozen BK138.out 6; have hfz46_7 := blk_frozen BK138.out 7) | ((with_reducible refine gate_dst (N := 45) rfl ?_); (try (refine gate_guard (by rfl) ?_; dsimp only)); refine Kd.R_lit (Kd.int .i64) _ 3 ?hg (N := 45) ?hd (xs := ([2, 2] : List Int)) (inner := [.int .i64 2, .int .i64 2]) (ok := fun _ => True) (okp := fun _ => True) ?hr ?hp (fun _ hk => hk) trivial (Below.refl _ _) (Nat.le_refl _) (by simp) ?_; (case hd => rfl); (case hg => rfl); (case hr => first | (go_simp; done) | (go_simp; rfl)); (case hp => exact (Reps.one (show Kd.M (Kd.int .i64) _ _ _ 2 [.int .i64 2] from rfl) (Reps.one (show Kd.M (Kd.int .i64) _ _ _ 2 [.int .i64 2] from rfl) (Reps.none _ _)))); intro v151 w47 ho48 hb hg_ hnew_; clear hg_ hnew_; (first | rw [← Ny150.out] at ho48 | (simp only [Int.reduceToNat] at ho48; rw [← Ny150.out] at ho48)); have n0_ := zm (Kd.R_lower ho48 (keep_size (w := w) (g := g) (row := none) (by repeat (first | (with_reducible first | exact HK.out | apply KeepBut.set_ | apply keep_drewN | apply keep_drew | apply keep_alloc | refine keep_far ?_ GW138.out _) | exact HK.out)))); have n1_ := zm (IsS26.below (by repeat (first | (with_reducible first | exact HI0.out | apply IsS26.alloc | apply IsS26.drewN | apply IsS26.drew | refine IsS26.far ?_ NB0_138.out _) | exact HI0.out)) hb); have n2_ := zm (blk_below (g := gb138) (o := .cells #[.int .i64 a1_0, .int .i64 a1_1, .int .i64 a1_2, .int .i64 a1_3, .int .i64 a1_4, .string a1_5, .slice A1_6 l1_6.length c1_6, .bool a1_7] 33 (0, 0)) (by (with_reducible repeat (first | refine blk_drewN ?_ _ | refine blk_drew ?_ | refine blk_alloc ?_ _)); exact BK138.out) hb); have n3_ := zm (KeepBut.trans (by repeat (first | (with_reducible first | exact HK.out | apply KeepBut.set_ | apply keep_drewN | apply keep_drew | apply keep_alloc | refine keep_far ?_ GW138.out _) | exact HK.out)) (KeepBut.of_below hb g none) (.inl rfl)); have n4_ := zm (below_step (by repeat (first | (with_reducible first | exact HB.out | apply below_alloc | apply pw_below_drewN | apply below_drew1 | refine below_set ?_ (IsS26.ge HI0.out) | refine below_set ?_ GE138.out) | exact HB.out)) hb); clear HI0; clear BK138; clear HK; clear HB; have HO152 := n0_; have HI0 := n1_; have BK138 := n2_; have HK := n3_; have HB := n4_; clear n0_ n1_ n2_ n3_ n4_; clear hb ho48; obtain ⟨Ao49, co49, eo49⟩ := Kd.R_slice HO152.out; subst eo49) | ((with_reducible refine gate_callee (f := 41) rfl ?_); refine goesL_ (some 46) rfl rfl Tryd.func41 (by kernel_rfl) rfl #[.slice A2 l2.length c2, .slice Ao49 y150.length co49] rfl (by (try simp only [List.map_toArray, List.map_cons, List.map_nil]); first | done | rfl | (simp only [List.length_drop, List.length_take]; rfl)) ?_; (with_reducible refine (kind_is.calls k _ _ l2 _ _ y150 t153 _ ?side1 ?side2 ?side3 ?side4 A43.out).mono ?_); (case side1 => exact Kd.C_keep 0 HR2.out (by repeat (first | (with_reducible first | exact HK.out | apply KeepBut.set_ | apply keep_drewN | apply keep_drew | apply keep_alloc | refine keep_far ?_ GW138.out _) | exact HK.out)) hf2); (case side2 => exact HC2.out); (case side3 => repeat (first | exact (Kd.R_reads' HO152.out).2.2 | (with_reducible refine Kd.C_alloc ?_ _) | (with_reducible refine Kd.C_drewN ?_ _) | (with_reducible refine Kd.C_drew ?_))); (case side4 => exact (Kd.R_reads' HO152.out).2.1); rintro e w' ⟨rfl, ⟨nd, rfl⟩⟩; refine ⟨_, rfl, ?_⟩))
       go_ret2
       exact ⟨by first | rfl | (simp [errW_none, errW_some] <;> rfl) | (simp [*, errW_none, errW_some] <;> rfl), by repeat (first | (with_reducible first | exact HI0.out | apply IsS26.alloc | apply IsS26.drewN | apply IsS26.drew | refine IsS26.far ?_ NB0_138.out _) | exact HI0.out), by repeat (first | (with_reducible first | exact HB.out | apply below_alloc | apply pw_below_drewN | apply below_drew1 | refine below_set ?_ (IsS26.ge HI0.out) | refine below_set ?_ GE138.out) | exact HB.out), by repeat (first | (with_reducible first | exact HK.out | apply KeepBut.set_ | apply keep_drewN | apply keep_drew | apply keep_alloc | refine keep_far ?_ GW138.out _) | exact HK.out)⟩
      ·rw [if_neg c42] at H
       have c42b0 : (a1_0 == 5) = false := beq_eq_false_iff_ne.mpr c42
       have c42b1 : (a1_0 != 5) = true := bne_iff_ne.mpr c42
       by_cases c50 : a1_0 = 8
       ·rw [if_pos c50] at H
        have c50b0 : (a1_0 == 8) = true := beq_iff_eq.mpr c50
        have c50b1 : (a1_0 != 8) = false := bne_eq_false_iff_eq.mpr c50
        clear c50
        obtain ⟨y154, hy154⟩ : ∃ y_ : List Int, y_ = (([2, 2] : List Int)) := ⟨_, rfl⟩
        replace H : ((kind_is.f k l2 y154).bind fun t157 => (some (1, t157))) = some (r1, r2) := by first | (rw [hy154]; with_reducible exact H) | (have H2_ := (Option.bind_some _ _).symm.trans H; rw [hy154]; with_reducible exact H2_) | (have H2_ := (Option.bind_some _ _).symm.trans H; with_reducible exact H2_) | with_reducible exact H | (rw [hy154]; exact H) | exact H
        have Ny154 := zm hy154
        clear hy154
        replace H := Option.bind_eq_some_iff.mp H
        obtain ⟨t157, A510, H⟩ := H
        replace H : (some (1, t157)) = some (r1, r2) := H
        have A51 := zm A510
        clear A510
        simp only [Option.some.injEq, Prod.mk.injEq] at H
        obtain ⟨rfl, rfl⟩ := H
        go_enter Tryd.func34, Tryd.ntmps34
        go_wp2_with (first | ((with_reducible refine gate_dst (N := 4) rfl ?_); (try (refine gate_guard (by rfl) ?_; dsimp only)); refine box_event ?hg (N := 4) ?hd (cs := #[.int .i64 a1_0, .int .i64 a1_1, .int .i64 a1_2, .int .i64 a1_3, .int .i64 a1_4, .string a1_5, .slice A1_6 l1_6.length c1_6, .bool a1_7]) (t := 33) ?hr ?_; (case hd => rfl); (case hg => rfl); (case hr => first | (go_simp; done) | (go_simp; rfl)); intro gb138 hg w52 hbox hb; have n0_ := zm (IsS26.below (by repeat (first | (with_reducible first | exact HI0.out | apply IsS26.alloc | apply IsS26.drewN | apply IsS26.drew) | exact HI0.out)) hb); have n1_ := zm (KeepBut.trans (by repeat (first | (with_reducible first | exact HK.out | apply KeepBut.set_ | apply keep_drewN | apply keep_drew | apply keep_alloc) | exact HK.out)) (KeepBut.of_below hb g none) (.inl rfl)); have n2_ := zm (below_step (by repeat (first | (with_reducible first | exact HB.out | apply below_alloc | apply pw_below_drewN | apply below_drew1 | refine below_set ?_ (IsS26.ge HI0.out)) | exact HB.out)) hb); have n3_ := zm (hbox); have n4_ := zm ((by rw [hg]; exact (keep_size (w := w) (g := g) (row := none) (by repeat (first | (with_reducible first | exact HK.out | apply KeepBut.set_ | apply keep_drewN | apply keep_drew | apply keep_alloc) | exact HK.out))) : w.heap.size ≤ gb138)); have n5_ := zm ((Nat.le_trans HW0.out (by rw [hg]; exact (keep_size (w := w) (g := g) (row := none) (by repeat (first | (with_reducible first | exact HK.out | apply KeepBut.set_ | apply keep_drewN | apply keep_drew | apply keep_alloc) | exact HK.out))) : w.heap.size ≤ gb138) : w0.heap.size ≤ gb138)); have n6_ := zm ((by rw [hg]; exact Nat.ne_of_lt (IsS26.lt (show IsS26 w0 _ g s0_0 s0_1 s0_2 from by repeat (first | (with_reducible first | exact HI0.out | apply IsS26.alloc | apply IsS26.drewN | apply IsS26.drew) | exact HI0.out))) : g ≠ gb138)); have n7_ := zm ((by rw [hg]; exact Nat.ne_of_gt (IsS26.lt (show IsS26 w0 _ g s0_0 s0_1 s0_2 from by repeat (first | (with_reducible first | exact HI0.out | apply IsS26.alloc | apply IsS26.drewN | apply IsS26.drew) | exact HI0.out))) : gb138 ≠ g)); clear HI0; clear HK; clear HB; have HI0 := n0_; have HK := n1_; have HB := n2_; have BK138 := n3_; have GW138 := n4_; have GE138 := n5_; have NB0_138 := n6_; have NB138_0 := n7_; clear n0_ n1_ n2_ n3_ n4_ n5_ n6_ n7_; clear hb hbox hg; have hnb53 := NB138_0.out; have hnc53 := NB0_138.out; have hcz54_0 : w52.cell? ⟨gb138, 0, none⟩ = some (.int .i64 a1_0) := (blk_cell BK138.out 0).trans rfl; have hcz54_1 : w52.cell? ⟨gb138, 1, none⟩ = some (.int .i64 a1_1) := (blk_cell BK138.out 1).trans rfl; have hcz54_2 : w52.cell? ⟨gb138, 2, none⟩ = some (.int .i64 a1_2) := (blk_cell BK138.out 2).trans rfl; have hcz54_3 : w52.cell? ⟨gb138, 3, none⟩ = some (.int .i64 a1_3) := (blk_cell BK138.out 3).trans rfl; have hcz54_4 : w52.cell? ⟨gb138, 4, none⟩ = some (.int .i64 a1_4) := (blk_cell BK138.out 4).trans rfl; have hcz54_5 : w52.cell? ⟨gb138, 5, none⟩ = some (.string a1_5) := (blk_cell BK138.out 5).trans rfl; have hcz54_6 : w52.cell? ⟨gb138, 6, none⟩ = some (.slice A1_6 l1_6.length c1_6) := (blk_cell BK138.out 6).trans rfl; have hcz54_7 : w52.cell? ⟨gb138, 7, none⟩ = some (.bool a1_7) := (blk_cell BK138.out 7).trans rfl; have hfz54_0 := blk_frozen BK138.out 0; have hfz54_1 := blk_frozen BK138.out 1; have hfz54_2 := blk_frozen BK138.out 2; have hfz54_3 := blk_frozen BK138.out 3; have hfz54_4 := blk_frozen BK138.out 4; have hfz54_5 := blk_frozen BK138.out 5; have hfz54_6 := blk_frozen BK138.out 6; have hfz54_7 := blk_frozen BK138.out 7) | ((with_reducible refine gate_dst (N := 50) rfl ?_); (try (refine gate_guard (by rfl) ?_; dsimp only)); refine Kd.R_lit (Kd.int .i64) _ 3 ?hg (N := 50) ?hd (xs := ([2, 2] : List Int)) (inner := [.int .i64 2, .int .i64 2]) (ok := fun _ => True) (okp := fun _ => True) ?hr ?hp (fun _ hk => hk) trivial (Below.refl _ _) (Nat.le_refl _) (by simp) ?_; (case hd => rfl); (case hg => rfl); (case hr => first | (go_simp; done) | (go_simp; rfl)); (case hp => exact (Reps.one (show Kd.M (Kd.int .i64) _ _ _ 2 [.int .i64 2] from rfl) (Reps.one (show Kd.M (Kd.int .i64) _ _ _ 2 [.int .i64 2] from rfl) (Reps.none _ _)))); intro v155 w55 ho56 hb hg_ hnew_; clear hg_ hnew_; (first | rw [← Ny154.out] at ho56 | (simp only [Int.reduceToNat] at ho56; rw [← Ny154.out] at ho56)); have n0_ := zm (Kd.R_lower ho56 (keep_size (w := w) (g := g) (row := none) (by repeat (first | (with_reducible first | exact HK.out | apply KeepBut.set_ | apply keep_drewN | apply keep_drew | apply keep_alloc | refine keep_far ?_ GW138.out _) | exact HK.out)))); have n1_ := zm (IsS26.below (by repeat (first | (with_reducible first | exact HI0.out | apply IsS26.alloc | apply IsS26.drewN | apply IsS26.drew | refine IsS26.far ?_ NB0_138.out _) | exact HI0.out)) hb); have n2_ := zm (blk_below (g := gb138) (o := .cells #[.int .i64 a1_0, .int .i64 a1_1, .int .i64 a1_2, .int .i64 a1_3, .int .i64 a1_4, .string a1_5, .slice A1_6 l1_6.length c1_6, .bool a1_7] 33 (0, 0)) (by (with_reducible repeat (first | refine blk_drewN ?_ _ | refine blk_drew ?_ | refine blk_alloc ?_ _)); exact BK138.out) hb); have n3_ := zm (KeepBut.trans (by repeat (first | (with_reducible first | exact HK.out | apply KeepBut.set_ | apply keep_drewN | apply keep_drew | apply keep_alloc | refine keep_far ?_ GW138.out _) | exact HK.out)) (KeepBut.of_below hb g none) (.inl rfl)); have n4_ := zm (below_step (by repeat (first | (with_reducible first | exact HB.out | apply below_alloc | apply pw_below_drewN | apply below_drew1 | refine below_set ?_ (IsS26.ge HI0.out) | refine below_set ?_ GE138.out) | exact HB.out)) hb); clear HI0; clear BK138; clear HK; clear HB; have HO156 := n0_; have HI0 := n1_; have BK138 := n2_; have HK := n3_; have HB := n4_; clear n0_ n1_ n2_ n3_ n4_; clear hb ho56; obtain ⟨Ao57, co57, eo57⟩ := Kd.R_slice HO156.out; subst eo57) | ((with_reducible refine gate_callee (f := 41) rfl ?_); refine goesL_ (some 51) rfl rfl Tryd.func41 (by kernel_rfl) rfl #[.slice A2 l2.length c2, .slice Ao57 y154.length co57] rfl (by (try simp only [List.map_toArray, List.map_cons, List.map_nil]); first | done | rfl | (simp only [List.length_drop, List.length_take]; rfl)) ?_; (with_reducible refine (kind_is.calls k _ _ l2 _ _ y154 t157 _ ?side1 ?side2 ?side3 ?side4 A51.out).mono ?_); (case side1 => exact Kd.C_keep 0 HR2.out (by repeat (first | (with_reducible first | exact HK.out | apply KeepBut.set_ | apply keep_drewN | apply keep_drew | apply keep_alloc | refine keep_far ?_ GW138.out _) | exact HK.out)) hf2); (case side2 => exact HC2.out); (case side3 => repeat (first | exact (Kd.R_reads' HO156.out).2.2 | (with_reducible refine Kd.C_alloc ?_ _) | (with_reducible refine Kd.C_drewN ?_ _) | (with_reducible refine Kd.C_drew ?_))); (case side4 => exact (Kd.R_reads' HO156.out).2.1); rintro e w' ⟨rfl, ⟨nd, rfl⟩⟩; refine ⟨_, rfl, ?_⟩))
        go_ret2
        exact ⟨by first | rfl | (simp [errW_none, errW_some] <;> rfl) | (simp [*, errW_none, errW_some] <;> rfl), by repeat (first | (with_reducible first | exact HI0.out | apply IsS26.alloc | apply IsS26.drewN | apply IsS26.drew | refine IsS26.far ?_ NB0_138.out _) | exact HI0.out), by repeat (first | (with_reducible first | exact HB.out | apply below_alloc | apply pw_below_drewN | apply below_drew1 | refine below_set ?_ (IsS26.ge HI0.out) | refine below_set ?_ GE138.out) | exact HB.out), by repeat (first | (with_reducible first | exact HK.out | apply KeepBut.set_ | apply keep_drewN | apply keep_drew | apply keep_alloc | refine keep_far ?_ GW138.out _) | exact HK.out)⟩
       ·rw [if_neg c50] at H
        have c50b0 : (a1_0 == 8) = false := beq_eq_false_iff_ne.mpr c50
        have c50b1 : (a1_0 != 8) = true := bne_iff_ne.mpr c50
        by_cases c58 : a1_0 = 6
        ·rw [if_pos c58] at H
         have c58b0 : (a1_0 == 6) = true := beq_iff_eq.mpr c58
         have c58b1 : (a1_0 != 6) = false := bne_eq_false_iff_eq.mpr c58
         clear c58
         obtain ⟨y158, hy158⟩ : ∃ y_ : List Int, y_ = (([2] : List Int)) := ⟨_, rfl⟩
         replace H : ((kind_is.f k l2 y158).bind fun t161 => (some (0, t161))) = some (r1, r2) := by first | (rw [hy158]; with_reducible exact H) | (have H2_ := (Option.bind_some _ _).symm.trans H; rw [hy158]; with_reducible exact H2_) | (have H2_ := (Option.bind_some _ _).symm.trans H; with_reducible exact H2_) | with_reducible exact H | (rw [hy158]; exact H) | exact H
         have Ny158 := zm hy158
         clear hy158
         replace H := Option.bind_eq_some_iff.mp H
         obtain ⟨t161, A590, H⟩ := H
         replace H : (some (0, t161)) = some (r1, r2) := H
         have A59 := zm A590
         clear A590
         simp only [Option.some.injEq, Prod.mk.injEq] at H
         obtain ⟨rfl, rfl⟩ := H
         go_enter Tryd.func34, Tryd.ntmps34
         go_wp2_with (first | ((with_reducible refine gate_dst (N := 4) rfl ?_); (try (refine gate_guard (by rfl) ?_; dsimp only)); refine box_event ?hg (N := 4) ?hd (cs := #[.int .i64 a1_0, .int .i64 a1_1, .int .i64 a1_2, .int .i64 a1_3, .int .i64 a1_4, .string a1_5, .slice A1_6 l1_6.length c1_6, .bool a1_7]) (t := 33) ?hr ?_; (case hd => rfl); (case hg => rfl); (case hr => first | (go_simp; done) | (go_simp; rfl)); intro gb138 hg w60 hbox hb; have n0_ := zm (IsS26.below (by repeat (first | (with_reducible first | exact HI0.out | apply IsS26.alloc | apply IsS26.drewN | apply IsS26.drew) | exact HI0.out)) hb); have n1_ := zm (KeepBut.trans (by repeat (first | (with_reducible first | exact HK.out | apply KeepBut.set_ | apply keep_drewN | apply keep_drew | apply keep_alloc) | exact HK.out)) (KeepBut.of_below hb g none) (.inl rfl)); have n2_ := zm (below_step (by repeat (first | (with_reducible first | exact HB.out | apply below_alloc | apply pw_below_drewN | apply below_drew1 | refine below_set ?_ (IsS26.ge HI0.out)) | exact HB.out)) hb); have n3_ := zm (hbox); have n4_ := zm ((by rw [hg]; exact (keep_size (w := w) (g := g) (row := none) (by repeat (first | (with_reducible first | exact HK.out | apply KeepBut.set_ | apply keep_drewN | apply keep_drew | apply keep_alloc) | exact HK.out))) : w.heap.size ≤ gb138)); have n5_ := zm ((Nat.le_trans HW0.out (by rw [hg]; exact (keep_size (w := w) (g := g) (row := none) (by repeat (first | (with_reducible first | exact HK.out | apply KeepBut.set_ | apply keep_drewN | apply keep_drew | apply keep_alloc) | exact HK.out))) : w.heap.size ≤ gb138) : w0.heap.size ≤ gb138)); have n6_ := zm ((by rw [hg]; exact Nat.ne_of_lt (IsS26.lt (show IsS26 w0 _ g s0_0 s0_1 s0_2 from by repeat (first | (with_reducible first | exact HI0.out | apply IsS26.alloc | apply IsS26.drewN | apply IsS26.drew) | exact HI0.out))) : g ≠ gb138)); have n7_ := zm ((by rw [hg]; exact Nat.ne_of_gt (IsS26.lt (show IsS26 w0 _ g s0_0 s0_1 s0_2 from by repeat (first | (with_reducible first | exact HI0.out | apply IsS26.alloc | apply IsS26.drewN | apply IsS26.drew) | exact HI0.out))) : gb138 ≠ g)); clear HI0; clear HK; clear HB; have HI0 := n0_; have HK := n1_; have HB := n2_; have BK138 := n3_; have GW138 := n4_; have GE138 := n5_; have NB0_138 := n6_; have NB138_0 := n7_; clear n0_ n1_ n2_ n3_ n4_ n5_ n6_ n7_; clear hb hbox hg; have hnb61 := NB138_0.out; have hnc61 := NB0_138.out; have hcz62_0 : w60.cell? ⟨gb138, 0, none⟩ = some (.int .i64 a1_0) := (blk_cell BK138.out 0).trans rfl; have hcz62_1 : w60.cell? ⟨gb138, 1, none⟩ = some (.int .i64 a1_1) := (blk_cell BK138.out 1).trans rfl; have hcz62_2 : w60.cell? ⟨gb138, 2, none⟩ = some (.int .i64 a1_2) := (blk_cell BK138.out 2).trans rfl; have hcz62_3 : w60.cell? ⟨gb138, 3, none⟩ = some (.int .i64 a1_3) := (blk_cell BK138.out 3).trans rfl; have hcz62_4 : w60.cell? ⟨gb138, 4, none⟩ = some (.int .i64 a1_4) := (blk_cell BK138.out 4).trans rfl; have hcz62_5 : w60.cell? ⟨gb138, 5, none⟩ = some (.string a1_5) := (blk_cell BK138.out 5).trans rfl; have hcz62_6 : w60.cell? ⟨gb138, 6, none⟩ = some (.slice A1_6 l1_6.length c1_6) := (blk_cell BK138.out 6).trans rfl; have hcz62_7 : w60.cell? ⟨gb138, 7, none⟩ = some (.bool a1_7) := (blk_cell BK138.out 7).trans rfl; have hfz62_0 := blk_frozen BK138.out 0; have hfz62_1 := blk_frozen BK138.out 1; have hfz62_2 := blk_frozen BK138.out 2; have hfz62_3 := blk_frozen BK138.out 3; have hfz62_4 := blk_frozen BK138.out 4; have hfz62_5 := blk_frozen BK138.out 5; have hfz62_6 := blk_frozen BK138.out 6; have hfz62_7 := blk_frozen BK138.out 7) | ((with_reducible refine gate_dst (N := 55) rfl ?_); (try (refine gate_guard (by rfl) ?_; dsimp only)); refine Kd.R_lit (Kd.int .i64) _ 3 ?hg (N := 55) ?hd (xs := ([2] : List Int)) (inner := [.int .i64 2]) (ok := fun _ => True) (okp := fun _ => True) ?hr ?hp (fun _ hk => hk) trivial (Below.refl _ _) (Nat.le_refl _) (by simp) ?_; (case hd => rfl); (case hg => rfl); (case hr => first | (go_simp; done) | (go_simp; rfl)); (case hp => exact (Reps.one (show Kd.M (Kd.int .i64) _ _ _ 2 [.int .i64 2] from rfl) (Reps.none _ _))); intro v159 w63 ho64 hb hg_ hnew_; clear hg_ hnew_; (first | rw [← Ny158.out] at ho64 | (simp only [Int.reduceToNat] at ho64; rw [← Ny158.out] at ho64)); have n0_ := zm (Kd.R_lower ho64 (keep_size (w := w) (g := g) (row := none) (by repeat (first | (with_reducible first | exact HK.out | apply KeepBut.set_ | apply keep_drewN | apply keep_drew | apply keep_alloc | refine keep_far ?_ GW138.out _) | exact HK.out)))); have n1_ := zm (IsS26.below (by repeat (first | (with_reducible first | exact HI0.out | apply IsS26.alloc | apply IsS26.drewN | apply IsS26.drew | refine IsS26.far ?_ NB0_138.out _) | exact HI0.out)) hb); have n2_ := zm (blk_below (g := gb138) (o := .cells #[.int .i64 a1_0, .int .i64 a1_1, .int .i64 a1_2, .int .i64 a1_3, .int .i64 a1_4, .string a1_5, .slice A1_6 l1_6.length c1_6, .bool a1_7] 33 (0, 0)) (by (with_reducible repeat (first | refine blk_drewN ?_ _ | refine blk_drew ?_ | refine blk_alloc ?_ _)); exact BK138.out) hb); have n3_ := zm (KeepBut.trans (by repeat (first | (with_reducible first | exact HK.out | apply KeepBut.set_ | apply keep_drewN | apply keep_drew | apply keep_alloc | refine keep_far ?_ GW138.out _) | exact HK.out)) (KeepBut.of_below hb g none) (.inl rfl)); have n4_ := zm (below_step (by repeat (first | (with_reducible first | exact HB.out | apply below_alloc | apply pw_below_drewN | apply below_drew1 | refine below_set ?_ (IsS26.ge HI0.out) | refine below_set ?_ GE138.out) | exact HB.out)) hb); clear HI0; clear BK138; clear HK; clear HB; have HO160 := n0_; have HI0 := n1_; have BK138 := n2_; have HK := n3_; have HB := n4_; clear n0_ n1_ n2_ n3_ n4_; clear hb ho64; obtain ⟨Ao65, co65, eo65⟩ := Kd.R_slice HO160.out; subst eo65) | ((with_reducible refine gate_callee (f := 41) rfl ?_); refine goesL_ (some 56) rfl rfl Tryd.func41 (by kernel_rfl) rfl #[.slice A2 l2.length c2, .slice Ao65 y158.length co65] rfl (by (try simp only [List.map_toArray, List.map_cons, List.map_nil]); first | done | rfl | (simp only [List.length_drop, List.length_take]; rfl)) ?_; (with_reducible refine (kind_is.calls k _ _ l2 _ _ y158 t161 _ ?side1 ?side2 ?side3 ?side4 A59.out).mono ?_); (case side1 => exact Kd.C_keep 0 HR2.out (by repeat (first | (with_reducible first | exact HK.out | apply KeepBut.set_ | apply keep_drewN | apply keep_drew | apply keep_alloc | refine keep_far ?_ GW138.out _) | exact HK.out)) hf2); (case side2 => exact HC2.out); (case side3 => repeat (first | exact (Kd.R_reads' HO160.out).2.2 | (with_reducible refine Kd.C_alloc ?_ _) | (with_reducible refine Kd.C_drewN ?_ _) | (with_reducible refine Kd.C_drew ?_))); (case side4 => exact (Kd.R_reads' HO160.out).2.1); rintro e w' ⟨rfl, ⟨nd, rfl⟩⟩; refine ⟨_, rfl, ?_⟩))
         go_ret2
         exact ⟨by first | rfl | (simp [errW_none, errW_some] <;> rfl) | (simp [*, errW_none, errW_some] <;> rfl), by repeat (first | (with_reducible first | exact HI0.out | apply IsS26.alloc | apply IsS26.drewN | apply IsS26.drew | refine IsS26.far ?_ NB0_138.out _) | exact HI0.out), by repeat (first | (with_reducible first | exact HB.out | apply below_alloc | apply pw_below_drewN | apply below_drew1 | refine below_set ?_ (IsS26.ge HI0.out) | refine below_set ?_ GE138.out) | exact HB.out), by repeat (first | (with_reducible first | exact HK.out | apply KeepBut.set_ | apply keep_drewN | apply keep_drew | apply keep_alloc | refine keep_far ?_ GW138.out _) | exact HK.out)⟩
        ·rw [if_neg c58] at H
         have c58b0 : (a1_0 == 6) = false := beq_eq_false_iff_ne.mpr c58
         have c58b1 : (a1_0 != 6) = true := bne_iff_ne.mpr c58
         by_cases c66 : a1_0 = 7
         ·rw [if_pos c66] at H
          have c66b0 : (a1_0 == 7) = true := beq_iff_eq.mpr c66
          have c66b1 : (a1_0 != 7) = false := bne_eq_false_iff_eq.mpr c66
          clear c66
          obtain ⟨y162, hy162⟩ : ∃ y_ : List Int, y_ = (([2, 0] : List Int)) := ⟨_, rfl⟩
          replace H : ((kind_is.f k l2 y162).bind fun t165 => (some (0, t165))) = some (r1, r2) := by first | (rw [hy162]; with_reducible exact H) | (have H2_ := (Option.bind_some _ _).symm.trans H; rw [hy162]; with_reducible exact H2_) | (have H2_ := (Option.bind_some _ _).symm.trans H; with_reducible exact H2_) | with_reducible exact H | (rw [hy162]; exact H) | exact H
          have Ny162 := zm hy162
          clear hy162
          replace H := Option.bind_eq_some_iff.mp H
          obtain ⟨t165, A670, H⟩ := H
          replace H : (some (0, t165)) = some (r1, r2) := H
          have A67 := zm A670
          clear A670
          simp only [Option.some.injEq, Prod.mk.injEq] at H
          obtain ⟨rfl, rfl⟩ := H
          go_enter Tryd.func34, Tryd.ntmps34
          go_wp2_with (first | ((with_reducible refine gate_dst (N := 4) rfl ?_); (try (refine gate_guard (by rfl) ?_; dsimp only)); refine box_event ?hg (N := 4) ?hd (cs := #[.int .i64 a1_0, .int .i64 a1_1, .int .i64 a1_2, .int .i64 a1_3, .int .i64 a1_4, .string a1_5, .slice A1_6 l1_6.length c1_6, .bool a1_7]) (t := 33) ?hr ?_; (case hd => rfl); (case hg => rfl); (case hr => first | (go_simp; done) | (go_simp; rfl)); intro gb138 hg w68 hbox hb; have n0_ := zm (IsS26.below (by repeat (first | (with_reducible first | exact HI0.out | apply IsS26.alloc | apply IsS26.drewN | apply IsS26.drew) | exact HI0.out)) hb); have n1_ := zm (KeepBut.trans (by repeat (first | (with_reducible first | exact HK.out | apply KeepBut.set_ | apply keep_drewN | apply keep_drew | apply keep_alloc) | exact HK.out)) (KeepBut.of_below hb g none) (.inl rfl)); have n2_ := zm (below_step (by repeat (first | (with_reducible first | exact HB.out | apply below_alloc | apply pw_below_drewN | apply below_drew1 | refine below_set ?_ (IsS26.ge HI0.out)) | exact HB.out)) hb); have n3_ := zm (hbox); have n4_ := zm ((by rw [hg]; exact (keep_size (w := w) (g := g) (row := none) (by repeat (first | (with_reducible first | exact HK.out | apply KeepBut.set_ | apply keep_drewN | apply keep_drew | apply keep_alloc) | exact HK.out))) : w.heap.size ≤ gb138)); have n5_ := zm ((Nat.le_trans HW0.out (by rw [hg]; exact (keep_size (w := w) (g := g) (row := none) (by repeat (first | (with_reducible first | exact HK.out | apply KeepBut.set_ | apply keep_drewN | apply keep_drew | apply keep_alloc) | exact HK.out))) : w.heap.size ≤ gb138) : w0.heap.size ≤ gb138)); have n6_ := zm ((by rw [hg]; exact Nat.ne_of_lt (IsS26.lt (show IsS26 w0 _ g s0_0 s0_1 s0_2 from by repeat (first | (with_reducible first | exact HI0.out | apply IsS26.alloc | apply IsS26.drewN | apply IsS26.drew) | exact HI0.out))) : g ≠ gb138)); have n7_ := zm ((by rw [hg]; exact Nat.ne_of_gt (IsS26.lt (show IsS26 w0 _ g s0_0 s0_1 s0_2 from by repeat (first | (with_reducible first | exact HI0.out | apply IsS26.alloc | apply IsS26.drewN | apply IsS26.drew) | exact HI0.out))) : gb138 ≠ g)); clear HI0; clear HK; clear HB; have HI0 := n0_; have HK := n1_; have HB := n2_; have BK138 := n3_; have GW138 := n4_; have GE138 := n5_; have NB0_138 := n6_; have NB138_0 := n7_; clear n0_ n1_ n2_ n3_ n4_ n5_ n6_ n7_; clear hb hbox hg; have hnb69 := NB138_0.out; have hnc69 := NB0_138.out; have hcz70_0 : w68.cell? ⟨gb138, 0, none⟩ = some (.int .i64 a1_0) := (blk_cell BK138.out 0).trans rfl; have hcz70_1 : w68.cell? ⟨gb138, 1, none⟩ = some (.int .i64 a1_1) := (blk_cell BK138.out 1).trans rfl; have hcz70_2 : w68.cell? ⟨gb138, 2, none⟩ = some (.int .i64 a1_2) := (blk_cell BK138.out 2).trans rfl; have hcz70_3 : w68.cell? ⟨gb138, 3, none⟩ = some (.int .i64 a1_3) := (blk_cell BK138.out 3).trans rfl; have hcz70_4 : w68.cell? ⟨gb138, 4, none⟩ = some (.int .i64 a1_4) := (blk_cell BK138.out 4).trans rfl; have hcz70_5 : w68.cell? ⟨gb138, 5, none⟩ = some (.string a1_5) := (blk_cell BK138.out 5).trans rfl; have hcz70_6 : w68.cell? ⟨gb138, 6, none⟩ = some (.slice A1_6 l1_6.length c1_6) := (blk_cell BK138.out 6).trans rfl; have hcz70_7 : w68.cell? ⟨gb138, 7, none⟩ = some (.bool a1_7) := (blk_cell BK138.out 7).trans rfl; have hfz70_0 := blk_frozen BK138.out 0; have hfz70_1 := blk_frozen BK138.out 1; have hfz70_2 := blk_frozen BK138.out 2; have hfz70_3 := blk_frozen BK138.out 3; have hfz70_4 := blk_frozen BK138.out 4; have hfz70_5 := blk_frozen BK138.out 5; have hfz70_6 := blk_frozen BK138.out 6; have hfz70_7 := blk_frozen BK138.out 7) | ((with_reducible refine gate_dst (N := 60) rfl ?_); (try (refine gate_guard (by rfl) ?_; dsimp only)); refine Kd.R_lit (Kd.int .i64) _ 3 ?hg (N := 60) ?hd (xs := ([2, 0] : List Int)) (inner := [.int .i64 2, .int .i64 0]) (ok := fun _ => True) (okp := fun _ => True) ?hr ?hp (fun _ hk => hk) trivial (Below.refl _ _) (Nat.le_refl _) (by simp) ?_; (case hd => rfl); (case hg => rfl); (case hr => first | (go_simp; done) | (go_simp; rfl)); (case hp => exact (Reps.one (show Kd.M (Kd.int .i64) _ _ _ 2 [.int .i64 2] from rfl) (Reps.one (show Kd.M (Kd.int .i64) _ _ _ 0 [.int .i64 0] from rfl) (Reps.none _ _)))); intro v163 w71 ho72 hb hg_ hnew_; clear hg_ hnew_; (first | rw [← Ny162.out] at ho72 | (simp only [Int.reduceToNat] at ho72; rw [← Ny162.out] at ho72)); have n0_ := zm (Kd.R_lower ho72 (keep_size (w := w) (g := g) (row := none) (by repeat (first | (with_reducible first | exact HK.out | apply KeepBut.set_ | apply keep_drewN | apply keep_drew | apply keep_alloc | refine keep_far ?_ GW138.out _) | exact HK.out)))); have n1_ := zm (IsS26.below (by repeat (first | (with_reducible first | exact HI0.out | apply IsS26.alloc | apply IsS26.drewN | apply IsS26.drew | refine IsS26.far ?_ NB0_138.out _) | exact HI0.out)) hb); have n2_ := zm (blk_below (g := gb138) (o := .cells #[.int .i64 a1_0, .int .i64 a1_1, .int .i64 a1_2, .int .i64 a1_3, .int .i64 a1_4, .string a1_5, .slice A1_6 l1_6.length c1_6, .bool a1_7] 33 (0, 0)) (by (with_reducible repeat (first | refine blk_drewN ?_ _ | refine blk_drew ?_ | refine blk_alloc ?_ _)); exact BK138.out) hb); have n3_ := zm (KeepBut.trans (by repeat (first | (with_reducible first | exact HK.out | apply KeepBut.set_ | apply keep_drewN | apply keep_drew | apply keep_alloc | refine keep_far ?_ GW138.out _) | exact HK.out)) (KeepBut.of_below hb g none) (.inl rfl)); have n4_ := zm (below_step (by repeat (first | (with_reducible first | exact HB.out | apply below_alloc | apply pw_below_drewN | apply below_drew1 | refine below_set ?_ (IsS26.ge HI0.out) | refine below_set ?_ GE138.out) | exact HB.out)) hb); clear HI0; clear BK138; clear HK; clear HB; have HO164 := n0_; have HI0 := n1_; have BK138 := n2_; have HK := n3_; have HB := n4_; clear n0_ n1_ n2_ n3_ n4_; clear hb ho72; obtain ⟨Ao73, co73, eo73⟩ := Kd.R_slice HO164.out; subst eo73) | ((with_reducible refine gate_callee (f := 41) rfl ?_); refine goesL_ (some 61) rfl rfl Tryd.func41 (by kernel_rfl) rfl #[.slice A2 l2.length c2, .slice Ao73 y162.length co73] rfl (by (try simp only [List.map_toArray, List.map_cons, List.map_nil]); first | done | rfl | (simp only [List.length_drop, List.length_take]; rfl)) ?_; (with_reducible refine (kind_is.calls k _ _ l2 _ _ y162 t165 _ ?side1 ?side2 ?side3 ?side4 A67.out).mono ?_); (case side1 => exact Kd.C_keep 0 HR2.out (by repeat (first | (with_reducible first | exact HK.out | apply KeepBut.set_ | apply keep_drewN | apply keep_drew | apply keep_alloc | refine keep_far ?_ GW138.out _) | exact HK.out)) hf2); (case side2 => exact HC2.out); (case side3 => repeat (first | exact (Kd.R_reads' HO164.out).2.2 | (with_reducible refine Kd.C_alloc ?_ _) | (with_reducible refine Kd.C_drewN ?_ _) | (with_reducible refine Kd.C_drew ?_))); (case side4 => exact (Kd.R_reads' HO164.out).2.1); rintro e w' ⟨rfl, ⟨nd, rfl⟩⟩; refine ⟨_, rfl, ?_⟩))
          go_ret2
          exact ⟨by first | rfl | (simp [errW_none, errW_some] <;> rfl) | (simp [*, errW_none, errW_some] <;> rfl), by repeat (first | (with_reducible first | exact HI0.out | apply IsS26.alloc | apply IsS26.drewN | apply IsS26.drew | refine IsS26.far ?_ NB0_138.out _) | exact HI0.out), by repeat (first | (with_reducible first | exact HB.out | apply below_alloc | apply pw_below_drewN | apply below_drew1 | refine below_set ?_ (IsS26.ge HI0.out) | refine below_set ?_ GE138.out) | exact HB.out), by repeat (first | (with_reducible first | exact HK.out | apply KeepBut.set_ | apply keep_drewN | apply keep_drew | apply keep_alloc | refine keep_far ?_ GW138.out _) | exact HK.out)⟩
         ·rw [if_neg c66] at H
          have c66b0 : (a1_0 == 7) = false := beq_eq_false_iff_ne.mpr c66
          have c66b1 : (a1_0 != 7) = true := bne_iff_ne.mpr c66
          by_cases c74 : a1_0 = 25
          ·rw [if_pos c74] at H
           have c74b0 : (a1_0 == 25) = true := beq_iff_eq.mpr c74
           have c74b1 : (a1_0 != 25) = false := bne_eq_false_iff_eq.mpr c74
           clear c74
           obtain ⟨y166, hy166⟩ : ∃ y_ : List Int, y_ = (([0] : List Int)) := ⟨_, rfl⟩
           replace H : ((kind_is.f k l2 y166).bind fun t169 => (if t169 = true then (some ((-1), true)) else ((kind_is.f k l2 (([2] : List Int))).bind fun t173 => (some ((-1), t173))))) = some (r1, r2) := by first | (rw [hy166]; with_reducible exact H) | (have H2_ := (Option.bind_some _ _).symm.trans H; rw [hy166]; with_reducible exact H2_) | (have H2_ := (Option.bind_some _ _).symm.trans H; with_reducible exact H2_) | with_reducible exact H | (rw [hy166]; exact H) | exact H
           have Ny166 := zm hy166
           clear hy166
           replace H := Option.bind_eq_some_iff.mp H
           obtain ⟨t169, A750, H⟩ := H
           replace H : (if t169 = true then (some ((-1), true)) else ((kind_is.f k l2 (([2] : List Int))).bind fun t173 => (some ((-1), t173)))) = some (r1, r2) := H
           have A75 := zm A750
           clear A750
           by_cases c76 : t169 = true
           ·subst c76
            have H1 : (some ((-1), true)) = some (r1, r2) := by rw [if_pos rfl] at H; exact H
            clear H
            have H := H1
            clear H1
            simp only [Option.some.injEq, Prod.mk.injEq] at H
            obtain ⟨rfl, rfl⟩ := H
            go_enter Tryd.func34, Tryd.ntmps34
            go_wp2_with (first | ((with_reducible refine gate_dst (N := 4) rfl ?_); (try (refine gate_guard (by rfl) ?_; dsimp only)); refine box_event ?hg (N := 4) ?hd (cs := #[.int .i64 a1_0, .int .i64 a1_1, .int .i64 a1_2, .int .i64 a1_3, .int .i64 a1_4, .string a1_5, .slice A1_6 l1_6.length c1_6, .bool a1_7]) (t := 33) ?hr ?_; (case hd => rfl); (case hg => rfl); (case hr => first | (go_simp; done) | (go_simp; rfl)); intro gb138 hg w77 hbox hb; have n0_ := zm (IsS26.below (by repeat (first | (with_reducible first | exact HI0.out | apply IsS26.alloc | apply IsS26.drewN | apply IsS26.drew) | exact HI0.out)) hb); have n1_ := zm (KeepBut.trans (by repeat (first | (with_reducible first | exact HK.out | apply KeepBut.set_ | apply keep_drewN | apply keep_drew | apply keep_alloc) | exact HK.out)) (KeepBut.of_below hb g none) (.inl rfl)); have n2_ := zm (below_step (by repeat (first | (with_reducible first | exact HB.out | apply below_alloc | apply pw_below_drewN | apply below_drew1 | refine below_set ?_ (IsS26.ge HI0.out)) | exact HB.out)) hb); have n3_ := zm (hbox); have n4_ := zm ((by rw [hg]; exact (keep_size (w := w) (g := g) (row := none) (by repeat (first | (with_reducible first | exact HK.out | apply KeepBut.set_ | apply keep_drewN | apply keep_drew | apply keep_alloc) | exact HK.out))) : w.heap.size ≤ gb138)); have n5_ := zm ((Nat.le_trans HW0.out (by rw [hg]; exact (keep_size (w := w) (g := g) (row := none) (by repeat (first | (with_reducible first | exact HK.out | apply KeepBut.set_ | apply keep_drewN | apply keep_drew | apply keep_alloc) | exact HK.out))) : w.heap.size ≤ gb138) : w0.heap.size ≤ gb138)); have n6_ := zm ((by rw [hg]; exact Nat.ne_of_lt (IsS26.lt (show IsS26 w0 _ g s0_0 s0_1 s0_2 from by repeat (first | (with_reducible first | exact HI0.out | apply IsS26.alloc | apply IsS26.drewN | apply IsS26.drew) | exact HI0.out))) : g ≠ gb138)); have n7_ := zm ((by rw [hg]; exact Nat.ne_of_gt (IsS26.lt (show IsS26 w0 _ g s0_0 s0_1 s0_2 from by repeat (first | (with_reducible first | exact HI0.out | apply IsS26.alloc | apply IsS26.drewN | apply IsS26.drew) | exact HI0.out))) : gb138 ≠ g)); clear HI0; clear HK; clear HB; have HI0 := n0_; have HK := n1_; have HB := n2_; have BK138 := n3_; have GW138 := n4_; have GE138 := n5_; have NB0_138 := n6_; have NB138_0 := n7_; clear n0_ n1_ n2_ n3_ n4_ n5_ n6_ n7_; clear hb hbox hg; have hnb78 := NB138_0.out; have hnc78 := NB0_138.out; have hcz79_0 : w77.cell? ⟨gb138, 0, none⟩ = some (.int .i64 a1_0) := (blk_cell BK138.out 0).trans rfl; have hcz79_1 : w77.cell? ⟨gb138, 1, none⟩ = some (.int .i64 a1_1) := (blk_cell BK138.out 1).trans rfl; have hcz79_2 : w77.cell? ⟨gb138, 2, none⟩ = some (.int .i64 a1_2) := (blk_cell BK138.out 2).trans rfl; have hcz79_3 : w77.cell? ⟨gb138, 3, none⟩ = some (.int .i64 a1_3) := (blk_cell BK138.out 3).trans rfl; have hcz79_4 : w77.cell? ⟨gb138, 4, none⟩ = some (.int .i64 a1_4) := (blk_cell BK138.out 4).trans rfl; have hcz79_5 : w77.cell? ⟨gb138, 5, none⟩ = some (.string a1_5) := (blk_cell BK138.out 5).trans rfl; have hcz79_6 : w77.cell? ⟨gb138, 6, none⟩ = some (.slice A1_6 l1_6.length c1_6) := (blk_cell BK138.out 6).trans rfl; have hcz79_7 : w77.cell? ⟨gb138, 7, none⟩ = some (.bool a1_7) := (blk_cell BK138.out 7).trans rfl; have hfz79_0 := blk_frozen BK138.out 0; have hfz79_1 := blk_frozen BK138.out 1; have hfz79_2 := blk_frozen BK138.out 2; have hfz79_3 := blk_frozen BK138.out 3; have hfz79_4 := blk_frozen BK138.out 4; have hfz79_5 := blk_frozen BK138.out 5; have hfz79_6 := blk_frozen BK138.out 6; have hfz79_7 := blk_frozen BK138.out 7) | ((with_reducible refine gate_dst (N := 65) rfl ?_); (try (refine gate_guard (by rfl) ?_; dsimp only)); refine Kd.R_lit (Kd.int .i64) _ 3 ?hg (N := 65) ?hd (xs := ([0] : List Int)) (inner := [.int .i64 0]) (ok := fun _ => True) (okp := fun _ => True) ?hr ?hp (fun _ hk => hk) trivial (Below.refl _ _) (Nat.le_refl _) (by simp) ?_; (case hd => rfl); (case hg => rfl); (case hr => first | (go_simp; done) | (go_simp; rfl)); (case hp => exact (Reps.one (show Kd.M (Kd.int .i64) _ _ _ 0 [.int .i64 0] from rfl) (Reps.none _ _))); intro v167 w80 ho81 hb hg_ hnew_; clear hg_ hnew_; (first | rw [← Ny166.out] at ho81 | (simp only [Int.reduceToNat] at ho81; rw [← Ny166.out] at ho81)); have n0_ := zm (Kd.R_lower ho81 (keep_size (w := w) (g := g) (row := none) (by repeat (first | (with_reducible first | exact HK.out | apply KeepBut.set_ | apply keep_drewN | apply keep_drew | apply keep_alloc | refine keep_far ?_ GW138.out _) | exact HK.out)))); have n1_ := zm (IsS26.below (by repeat (first | (with_reducible first | exact HI0.out | apply IsS26.alloc | apply IsS26.drewN | apply IsS26.drew | refine IsS26.far ?_ NB0_138.out _) | exact HI0.out)) hb); have n2_ := zm (blk_below (g := gb138) (o := .cells #[.int .i64 a1_0, .int .i64 a1_1, .int .i64 a1_2, .int .i64 a1_3, .int .i64 a1_4, .string a1_5, .slice A1_6 l1_6.length c1_6, .bool a1_7] 33 (0, 0)) (by (with_reducible repeat (first | refine blk_drewN ?_ _ | refine blk_drew ?_ | refine blk_alloc ?_ _)); exact BK138.out) hb); have n3_ := zm (KeepBut.trans (by repeat (first | (with_reducible first | exact HK.out | apply KeepBut.set_ | apply keep_drewN | apply keep_drew | apply keep_alloc | refine keep_far ?_ GW138.out _) | exact HK.out)) (KeepBut.of_below hb g none) (.inl rfl)); have n4_ := zm (below_step (by repeat (first | (with_reducible first | exact HB.out | apply below_alloc | apply pw_below_drewN | apply below_drew1 | refine below_set ?_ (IsS26.ge HI0.out) | refine below_set ?_ GE138.out) | exact HB.out)) hb); clear HI0; clear BK138; clear HK; clear HB; have HO168 := n0_; have HI0 := n1_; have BK138 := n2_; have HK := n3_; have HB := n4_; clear n0_ n1_ n2_ n3_ n4_; clear hb ho81; obtain ⟨Ao82, co82, eo82⟩ := Kd.R_slice HO168.out; subst eo82) | ((with_reducible refine gate_callee (f := 41) rfl ?_); refine goesL_ (some 66) rfl rfl Tryd.func41 (by kernel_rfl) rfl #[.slice A2 l2.length c2, .slice Ao82 y166.length co82] rfl (by (try simp only [List.map_toArray, List.map_cons, List.map_nil]); first | done | rfl | (simp only [List.length_drop, List.length_take]; rfl)) ?_; (with_reducible refine (kind_is.calls k _ _ l2 _ _ y166 true _ ?side1 ?side2 ?side3 ?side4 A75.out).mono ?_); (case side1 => exact Kd.C_keep 0 HR2.out (by repeat (first | (with_reducible first | exact HK.out | apply KeepBut.set_ | apply keep_drewN | apply keep_drew | apply keep_alloc | refine keep_far ?_ GW138.out _) | exact HK.out)) hf2); (case side2 => exact HC2.out); (case side3 => repeat (first | exact (Kd.R_reads' HO168.out).2.2 | (with_reducible refine Kd.C_alloc ?_ _) | (with_reducible refine Kd.C_drewN ?_ _) | (with_reducible refine Kd.C_drew ?_))); (case side4 => exact (Kd.R_reads' HO168.out).2.1); rintro e w' ⟨rfl, ⟨nd, rfl⟩⟩; refine ⟨_, rfl, ?_⟩))
            go_ret2
            exact ⟨by first | rfl | (simp [errW_none, errW_some] <;> rfl) | (simp [*, errW_none, errW_some] <;> rfl), by repeat (first | (with_reducible first | exact HI0.out | apply IsS26.alloc | apply IsS26.drewN | apply IsS26.drew | refine IsS26.far ?_ NB0_138.out _) | exact HI0.out), by repeat (first | (with_reducible first | exact HB.out | apply below_alloc | apply pw_below_drewN | apply below_drew1 | refine below_set ?_ (IsS26.ge HI0.out) | refine below_set ?_ GE138.out) | exact HB.out), by repeat (first | (with_reducible first | exact HK.out | apply KeepBut.set_ | apply keep_drewN | apply keep_drew | apply keep_alloc | refine keep_far ?_ GW138.out _) | exact HK.out)⟩
           ·replace c76 := Bool.eq_false_iff.mpr c76
            subst c76
            have H1 : ((kind_is.f k l2 (([2] : List Int))).bind fun t173 => (some ((-1), t173))) = some (r1, r2) := by rw [if_neg (show ¬ (false = true) by decide)] at H; exact H
            clear H
            have H := H1
            clear H1
            obtain ⟨y170, hy170⟩ : ∃ y_ : List Int, y_ = (([2] : List Int)) := ⟨_, rfl⟩
            replace H : ((kind_is.f k l2 y170).bind fun t173 => (some ((-1), t173))) = some (r1, r2) := by first | (rw [hy170]; with_reducible exact H) | (have H2_ := (Option.bind_some _ _).symm.trans H; rw [hy170]; with_reducible exact H2_) | (have H2_ := (Option.bind_some _ _).symm.trans H; with_reducible exact H2_) | with_reducible exact H | (rw [hy170]; exact H) | exact H
            have Ny170 := zm hy170
            clear hy170
            replace H := Option.bind_eq_some_iff.mp H
            obtain ⟨t173, A830, H⟩ := H
            replace H : (some ((-1), t173)) = some (r1, r2) := H
            have A83 := zm A830
            clear A830
            simp only [Option.some.injEq, Prod.mk.injEq] at H
            obtain ⟨rfl, rfl⟩ := H
            go_enter Tryd.func34, Tryd.ntmps34
            go_wp2_with (first | ((with_reducible refine gate_dst (N := 4) rfl ?_); (try (refine gate_guard (by rfl) ?_; dsimp only)); refine box_event ?hg (N := 4) ?hd (cs := #[.int .i64 a1_0, .int .i64 a1_1, .int .i64 a1_2, .int .i64 a1_3, .int .i64 a1_4, .string a1_5, .slice A1_6 l1_6.length c1_6, .bool a1_7]) (t := 33) ?hr ?_; (case hd => rfl); (case hg => rfl); (case hr => first | (go_simp; done) | (go_simp; rfl)); intro gb138 hg w84 hbox hb; have n0_ := zm (IsS26.below (by repeat (first | (with_reducible first | exact HI0.out | apply IsS26.alloc | apply IsS26.drewN | apply IsS26.drew) | exact HI0.out)) hb); have n1_ := zm (KeepBut.trans (by repeat (first | (with_reducible first | exact HK.out | apply KeepBut.set_ | apply keep_drewN | apply keep_drew | apply keep_alloc) | exact HK.out)) (KeepBut.of_below hb g none) (.inl rfl)); have n2_ := zm (below_step (by repeat (first | (with_reducible first | exact HB.out | apply below_alloc | apply pw_below_drewN | apply below_drew1 | refine below_set ?_ (IsS26.ge HI0.out)) | exact HB.out)) hb); have n3_ := zm (hbox); have n4_ := zm ((by rw [hg]; exact (keep_size (w := w) (g := g) (row := none) (by repeat (first | (with_reducible first | exact HK.out | apply KeepBut.set_ | apply keep_drewN | apply keep_drew | apply keep_alloc) | exact HK.out))) : w.heap.size ≤ gb138)); have n5_ := zm ((Nat.le_trans HW0.out (by rw [hg]; exact (keep_size (w := w) (g := g) (row := none) (by repeat (first | (with_reducible first | exact HK.out | apply KeepBut.set_ | apply keep_drewN | apply keep_drew | apply keep_alloc) | exact HK.out))) : w.heap.size ≤ gb138) : w0.heap.size ≤ gb138)); have n6_ := zm ((by rw [hg]; exact Nat.ne_of_lt (IsS26.lt (show IsS26 w0 _ g s0_0 s0_1 s0_2 from by repeat (first | (with_reducible first | exact HI0.out | apply IsS26.alloc | apply IsS26.drewN | apply IsS26.drew) | exact HI0.out))) : g ≠ gb138)); have n7_ := zm ((by rw [hg]; exact Nat.ne_of_gt (IsS26.lt (show IsS26 w0 _ g s0_0 s0_1 s0_2 from by repeat (first | (with_reducible first | exact HI0.out | apply IsS26.alloc | apply IsS26.drewN | apply IsS26.drew) | exact HI0.out))) : gb138 ≠ g)); clear HI0; clear HK; clear HB; have HI0 := n0_; have HK := n1_; have HB := n2_; have BK138 := n3_; have GW138 := n4_; have GE138 := n5_; have NB0_138 := n6_; have NB138_0 := n7_; clear n0_ n1_ n2_ n3_ n4_ n5_ n6_ n7_; clear hb hbox hg; have hnb85 := NB138_0.out; have hnc85 := NB0_138.out; have hcz86_0 : w84.cell? ⟨gb138, 0, none⟩ = some (.int .i64 a1_0) := (blk_cell BK138.out 0).trans rfl; have hcz86_1 : w84.cell? ⟨gb138, 1, none⟩ = some (.int .i64 a1_1) := (blk_cell BK138.out 1).trans rfl; have hcz86_2 : w84.cell? ⟨gb138, 2, none⟩ = some (.int .i64 a1_2) := (blk_cell BK138.out 2).trans rfl; have hcz86_3 : w84.cell? ⟨gb138, 3, none⟩ = some (.int .i64 a1_3) := (blk_cell BK138.out 3).trans rfl; have hcz86_4 : w84.cell? ⟨gb138, 4, none⟩ = some (.int .i64 a1_4) := (blk_cell BK138.out 4).trans rfl; have hcz86_5 : w84.cell? ⟨gb138, 5, none⟩ = some (.string a1_5) := (blk_cell BK138.out 5).trans rfl; have hcz86_6 : w84.cell? ⟨gb138, 6, none⟩ = some (.slice A1_6 l1_6.length c1_6) := (blk_cell BK138.out 6).trans rfl; have hcz86_7 : w84.cell? ⟨gb138, 7, none⟩ = some (.bool a1_7) := (blk_cell BK138.out 7).trans rfl; have hfz86_0 := blk_frozen BK138.out 0; have hfz86_1 := blk_frozen BK138.out 1; have hfz86_2 := blk_frozen BK138.out 2; have hfz86_3 := blk_frozen BK138.out 3; have hfz86_4 := blk_frozen BK138.out 4; have hfz86_5 := blk_frozen BK138.out 5; have hfz86_6 := blk_frozen BK138.out 6; have hfz86_7 := blk_frozen BK138.out 7) | ((with_reducible refine gate_dst (N := 65) rfl ?_); (try (refine gate_guard (by rfl) ?_; dsimp only)); refine Kd.R_lit (Kd.int .i64) _ 3 ?hg (N := 65) ?hd (xs := ([0] : List Int)) (inner := [.int .i64 0]) (ok := fun _ => True) (okp := fun _ => True) ?hr ?hp (fun _ hk => hk) trivial (Below.refl _ _) (Nat.le_refl _) (by simp) ?_; (case hd => rfl); (case hg => rfl); (case hr => first | (go_simp; done) | (go_simp; rfl)); (case hp => exact (Reps.one (show Kd.M (Kd.int .i64) _ _ _ 0 [.int .i64 0] from rfl) (Reps.none _ _))); intro v167 w87 ho88 hb hg_ hnew_; clear hg_ hnew_; (first | rw [← Ny166.out] at ho88 | (simp only [Int.reduceToNat] at ho88; rw [← Ny166.out] at ho88)); have n0_ := zm (Kd.R_lower ho88 (keep_size (w := w) (g := g) (row := none) (by repeat (first | (with_reducible first | exact HK.out | apply KeepBut.set_ | apply keep_drewN | apply keep_drew | apply keep_alloc | refine keep_far ?_ GW138.out _) | exact HK.out)))); have n1_ := zm (IsS26.below (by repeat (first | (with_reducible first | exact HI0.out | apply IsS26.alloc | apply IsS26.drewN | apply IsS26.drew | refine IsS26.far ?_ NB0_138.out _) | exact HI0.out)) hb); have n2_ := zm (blk_below (g := gb138) (o := .cells #[.int .i64 a1_0, .int .i64 a1_1, .int .i64 a1_2, .int .i64 a1_3, .int .i64 a1_4, .string a1_5, .slice A1_6 l1_6.length c1_6, .bool a1_7] 33 (0, 0)) (by (with_reducible repeat (first | refine blk_drewN ?_ _ | refine blk_drew ?_ | refine blk_alloc ?_ _)); exact BK138.out) hb); have n3_ := zm (KeepBut.trans (by repeat (first | (with_reducible first | exact HK.out | apply KeepBut.set_ | apply keep_drewN | apply keep_drew | apply keep_alloc | refine keep_far ?_ GW138.out _) | exact HK.out)) (KeepBut.of_below hb g none) (.inl rfl)); have n4_ := zm (below_step (by repeat (first | (with_reducible first | exact HB.out | apply below_alloc | apply pw_below_drewN | apply below_drew1 | refine below_set ?_ (IsS26.ge HI0.out) | refine below_set ?_ GE138.out) | exact HB.out)) hb); clear HI0; clear BK138; clear HK; clear HB; have HO168 := n0_; have HI0 := n1_; have BK138 := n2_; have HK := n3_; have HB := n4_; clear n0_ n1_ n2_ n3_ n4_; clear hb ho88; obtain ⟨Ao89, co89, eo89⟩ := Kd.R_slice HO168.out; subst eo89) | ((with_reducible refine gate_callee (f := 41) rfl ?_); refine goesL_ (some 66) rfl rfl Tryd.func41 (by kernel_rfl) rfl #[.slice A2 l2.length c2, .slice Ao89 y166.length co89] rfl (by (try simp only [List.map_toArray, List.map_cons, List.map_nil]); first | done | rfl | (simp only [List.length_drop, List.length_take]; rfl)) ?_; (with_reducible refine (kind_is.calls k _ _ l2 _ _ y166 false _ ?side1 ?side2 ?side3 ?side4 A75.out).mono ?_); (case side1 => exact Kd.C_keep 0 HR2.out (by repeat (first | (with_reducible first | exact HK.out | apply KeepBut.set_ | apply keep_drewN | apply keep_drew | apply keep_alloc | refine keep_far ?_ GW138.out _) | exact HK.out)) hf2); (case side2 => exact HC2.out); (case side3 => repeat (first | exact (Kd.R_reads' HO168.out).2.2 | (with_reducible refine Kd.C_alloc ?_ _) | (with_reducible refine Kd.C_drewN ?_ _) | (with_reducible refine Kd.C_drew ?_))); (case side4 => exact (Kd.R_reads' HO168.out).2.1); rintro e w' ⟨rfl, ⟨nd, rfl⟩⟩; refine ⟨_, rfl, ?_⟩) | ((with_reducible refine gate_dst (N := 69) rfl ?_); (try (refine gate_guard (by rfl) ?_; dsimp only)); refine Kd.R_lit (Kd.int .i64) _ 3 ?hg (N := 69) ?hd (xs := ([2] : List Int)) (inner := [.int .i64 2]) (ok := fun _ => True) (okp := fun _ => True) ?hr ?hp (fun _ hk => hk) trivial (Below.refl _ _) (Nat.le_refl _) (by simp) ?_; (case hd => rfl); (case hg => rfl); (case hr => first | (go_simp; done) | (go_simp; rfl)); (case hp => exact (Reps.one (show Kd.M (Kd.int .i64) _ _ _ 2 [.int .i64 2] from rfl) (Reps.none _ _))); intro v171 w90 ho91 hb hg_ hnew_; clear hg_ hnew_; (first | rw [← Ny170.out] at ho91 | (simp only [Int.reduceToNat] at ho91; rw [← Ny170.out] at ho91)); have n0_ := zm (Kd.R_elder' (by (with_reducible repeat (first | apply Kd.R_alloc | apply Kd.R_drewN | apply Kd.R_drew)); exact HO168.out) (Kd.R_base ho91) hb); have n1_ := zm (Kd.R_lower (Kd.R_new' ho91 (Kd.R_lt (by (with_reducible repeat (first | apply Kd.R_alloc | apply Kd.R_drewN | apply Kd.R_drew)); exact HO168.out))) (keep_size (w := w) (g := g) (row := none) (by repeat (first | (with_reducible first | exact HK.out | apply KeepBut.set_ | apply keep_drewN | apply keep_drew | apply keep_alloc | refine keep_far ?_ GW138.out _) | exact HK.out)))); have n2_ := zm (IsS26.below (by repeat (first | (with_reducible first | exact HI0.out | apply IsS26.alloc | apply IsS26.drewN | apply IsS26.drew | refine IsS26.far ?_ NB0_138.out _) | exact HI0.out)) hb); have n3_ := zm (blk_below (g := gb138) (o := .cells #[.int .i64 a1_0, .int .i64 a1_1, .int .i64 a1_2, .int .i64 a1_3, .int .i64 a1_4, .string a1_5, .slice A1_6 l1_6.length c1_6, .bool a1_7] 33 (0, 0)) (by (with_reducible repeat (first | refine blk_drewN ?_ _ | refine blk_drew ?_ | refine blk_alloc ?_ _)); exact BK138.out) hb); have n4_ := zm (KeepBut.trans (by repeat (first | (with_reducible first | exact HK.out | apply KeepBut.set_ | apply keep_drewN | apply keep_drew | apply keep_alloc | refine keep_far ?_ GW138.out _) | exact HK.out)) (KeepBut.of_below hb g none) (.inl rfl)); have n5_ := zm (below_step (by repeat (first | (with_reducible first | exact HB.out | apply below_alloc | apply pw_below_drewN | apply below_drew1 | refine below_set ?_ (IsS26.ge HI0.out) | refine below_set ?_ GE138.out) | exact HB.out)) hb); clear HO168; clear HI0; clear BK138; clear HK; clear HB; have HO168 := n0_; have HO172 := n1_; have HI0 := n2_; have BK138 := n3_; have HK := n4_; have HB := n5_; clear n0_ n1_ n2_ n3_ n4_ n5_; clear hb ho91; obtain ⟨Ao92, co92, eo92⟩ := Kd.R_slice HO172.out; subst eo92) | (go_at_call 41; (with_reducible refine (kind_is.calls k _ _ l2 _ _ y170 t173 _ ?side1 ?side2 ?side3 ?side4 A83.out).mono ?_); (case side1 => exact Kd.C_keep 0 HR2.out (by repeat (first | (with_reducible first | exact HK.out | apply KeepBut.set_ | apply keep_drewN | apply keep_drew | apply keep_alloc | refine keep_far ?_ GW138.out _) | exact HK.out)) hf2); (case side2 => exact HC2.out); (case side3 => repeat (first | exact (Kd.R_reads' HO172.out).2.2 | (with_reducible refine Kd.C_alloc ?_ _) | (with_reducible refine Kd.C_drewN ?_ _) | (with_reducible refine Kd.C_drew ?_))); (case side4 => exact (Kd.R_reads' HO172.out).2.1); rintro e w' ⟨rfl, ⟨nd, rfl⟩⟩))
            go_ret2
            exact ⟨by first | rfl | (simp [errW_none, errW_some] <;> rfl) | (simp [*, errW_none, errW_some] <;> rfl), by repeat (first | (with_reducible first | exact HI0.out | apply IsS26.alloc | apply IsS26.drewN | apply IsS26.drew | refine IsS26.far ?_ NB0_138.out _) | exact HI0.out), by repeat (first | (with_reducible first | exact HB.out | apply below_alloc | apply pw_below_drewN | apply below_drew1 | refine below_set ?_ (IsS26.ge HI0.out) | refine below_set ?_ GE138.out) | exact HB.out), by repeat (first | (with_reducible first | exact HK.out | apply KeepBut.set_ | apply keep_drewN | apply keep_drew | apply keep_alloc | refine keep_far ?_ GW138.out _) | exact HK.out)⟩
          ·rw [if_neg c74] at H
           have c74b0 : (a1_0 == 25) = false := beq_eq_false_iff_ne.mpr c74
           have c74b1 : (a1_0 != 25) = true := bne_iff_ne.mpr c74
           by_cases c93 : a1_0 = 23
           ·rw [if_pos c93] at H
            have c93b0 : (a1_0 == 23) = true := beq_iff_eq.mpr c93
            have c93b1 : (a1_0 != 23) = false := bne_eq_false_iff_eq.mpr c93
            clear c93
            have HC94 := zm H
            clear H
            go_enter Tryd.func34, Tryd.ntmps34
            go_upto_region 23 with (first | ((with_reducible refine gate_dst (N := 4) rfl ?_); (try (refine gate_guard (by rfl) ?_; dsimp only)); refine box_event ?hg (N := 4) ?hd (cs := #[.int .i64 a1_0, .int .i64 a1_1, .int .i64 a1_2, .int .i64 a1_3, .int .i64 a1_4, .string a1_5, .slice A1_6 l1_6.length c1_6, .bool a1_7]) (t := 33) ?hr ?_; (case hd => rfl); (case hg => rfl); (case hr => first | (go_simp; done) | (go_simp; rfl)); intro gb138 hg w95 hbox hb; have n0_ := zm (IsS26.below (by repeat (first | (with_reducible first | exact HI0.out | apply IsS26.alloc | apply IsS26.drewN | apply IsS26.drew) | exact HI0.out)) hb); have n1_ := zm (KeepBut.trans (by repeat (first | (with_reducible first | exact HK.out | apply KeepBut.set_ | apply keep_drewN | apply keep_drew | apply keep_alloc) | exact HK.out)) (KeepBut.of_below hb g none) (.inl rfl)); have n2_ := zm (below_step (by repeat (first | (with_reducible first | exact HB.out | apply below_alloc | apply pw_below_drewN | apply below_drew1 | refine below_set ?_ (IsS26.ge HI0.out)) | exact HB.out)) hb); have n3_ := zm (hbox); have n4_ := zm ((by rw [hg]; exact (keep_size (w := w) (g := g) (row := none) (by repeat (first | (with_reducible first | exact HK.out | apply KeepBut.set_ | apply keep_drewN | apply keep_drew | apply keep_alloc) | exact HK.out))) : w.heap.size ≤ gb138)); have n5_ := zm ((Nat.le_trans HW0.out (by rw [hg]; exact (keep_size (w := w) (g := g) (row := none) (by repeat (first | (with_reducible first | exact HK.out | apply KeepBut.set_ | apply keep_drewN | apply keep_drew | apply keep_alloc) | exact HK.out))) : w.heap.size ≤ gb138) : w0.heap.size ≤ gb138)); have n6_ := zm ((by rw [hg]; exact Nat.ne_of_lt (IsS26.lt (show IsS26 w0 _ g s0_0 s0_1 s0_2 from by repeat (first | (with_reducible first | exact HI0.out | apply IsS26.alloc | apply IsS26.drewN | apply IsS26.drew) | exact HI0.out))) : g ≠ gb138)); have n7_ := zm ((by rw [hg]; exact Nat.ne_of_gt (IsS26.lt (show IsS26 w0 _ g s0_0 s0_1 s0_2 from by repeat (first | (with_reducible first | exact HI0.out | apply IsS26.alloc | apply IsS26.drewN | apply IsS26.drew) | exact HI0.out))) : gb138 ≠ g)); clear HI0; clear HK; clear HB; have HI0 := n0_; have HK := n1_; have HB := n2_; have BK138 := n3_; have GW138 := n4_; have GE138 := n5_; have NB0_138 := n6_; have NB138_0 := n7_; clear n0_ n1_ n2_ n3_ n4_ n5_ n6_ n7_; clear hb hbox hg; have hnb96 := NB138_0.out; have hnc96 := NB0_138.out; have hcz97_0 : w95.cell? ⟨gb138, 0, none⟩ = some (.int .i64 a1_0) := (blk_cell BK138.out 0).trans rfl; have hcz97_1 : w95.cell? ⟨gb138, 1, none⟩ = some (.int .i64 a1_1) := (blk_cell BK138.out 1).trans rfl; have hcz97_2 : w95.cell? ⟨gb138, 2, none⟩ = some (.int .i64 a1_2) := (blk_cell BK138.out 2).trans rfl; have hcz97_3 : w95.cell? ⟨gb138, 3, none⟩ = some (.int .i64 a1_3) := (blk_cell BK138.out 3).trans rfl; have hcz97_4 : w95.cell? ⟨gb138, 4, none⟩ = some (.int .i64 a1_4) := (blk_cell BK138.out 4).trans rfl; have hcz97_5 : w95.cell? ⟨gb138, 5, none⟩ = some (.string a1_5) := (blk_cell BK138.out 5).trans rfl; have hcz97_6 : w95.cell? ⟨gb138, 6, none⟩ = some (.slice A1_6 l1_6.length c1_6) := (blk_cell BK138.out 6).trans rfl; have hcz97_7 : w95.cell? ⟨gb138, 7, none⟩ = some (.bool a1_7) := (blk_cell BK138.out 7).trans rfl; have hfz97_0 := blk_frozen BK138.out 0; have hfz97_1 := blk_frozen BK138.out 1; have hfz97_2 := blk_frozen BK138.out 2; have hfz97_3 := blk_frozen BK138.out 3; have hfz97_4 := blk_frozen BK138.out 4; have hfz97_5 := blk_frozen BK138.out 5; have hfz97_6 := blk_frozen BK138.out 6; have hfz97_7 := blk_frozen BK138.out 7))
            (try simp only [Act.put, List.setIfInBounds_toArray, List.set_cons_zero, List.set_cons_succ])
            go_cut [95] (fun v95 wc => ∃ (kq : Nat) (x95_93 : Bool), v95 = .bool x95_93 ∧ Aside0 (kind_result.j0 kq l2 x95_93 s0_0 s0_1 s0_2 a1_0 a1_1 a1_2 a1_3 a1_4 a1_5 l1_6 a1_7 = some (r1, r2)) ∧ Aside0 (kq ≤ k) ∧ Aside0 (wc.heap[gb138]? = some (.cells #[.int .i64 a1_0, .int .i64 a1_1, .int .i64 a1_2, .int .i64 a1_3, .int .i64 a1_4, .string a1_5, (.slice A1_6 l1_6.length c1_6), .bool a1_7] 33 (0, 0))) ∧ Aside0 (IsS26 w0 wc g s0_0 s0_1 s0_2) ∧ Aside0 (KeepBut w wc g none) ∧ Aside0 (Below w0.heap.size w0 wc))
            case first =>
             have H := HC94.out
             clear HC94
             replace H := Option.bind_eq_some_iff.mp H
             obtain ⟨t174, A980, H⟩ := H
             replace H : (if t174 = true then (if 0 ≤ a1_4 then (if a1_4 < (s0_2.length : Int) then (kind_result.j0 k l2 ((((rd_T66 s0_2 a1_4).f1).length : Int) == 0) s0_0 s0_1 s0_2 a1_0 a1_1 a1_2 a1_3 a1_4 a1_5 l1_6 a1_7) else (none)) else (none)) else (kind_result.j0 k l2 true s0_0 s0_1 s0_2 a1_0 a1_1 a1_2 a1_3 a1_4 a1_5 l1_6 a1_7)) = some (r1, r2) := H
             have A98 := zm A980
             clear A980
             by_cases c99 : t174 = true
             ·subst c99
              have H1 : (if 0 ≤ a1_4 then (if a1_4 < (s0_2.length : Int) then (kind_result.j0 k l2 ((((rd_T66 s0_2 a1_4).f1).length : Int) == 0) s0_0 s0_1 s0_2 a1_0 a1_1 a1_2 a1_3 a1_4 a1_5 l1_6 a1_7) else (none)) else (none)) = some (r1, r2) := by rw [if_pos rfl] at H; exact H
              clear H
              have H := H1
              clear H1
              by_cases c100 : 0 ≤ a1_4
              ·rw [if_pos c100] at H
               have c100b0 : decide (0 ≤ a1_4) = true := decide_eq_true c100
               clear c100
               (first | rw [c100b0] | (simp only [i64_w, i32_w]; rw [c100b0]) | rw [c100b1] | skip)
               by_cases c101 : a1_4 < (s0_2.length : Int)
               ·rw [if_pos c101] at H
                have c101b0 : decide (a1_4 < (s0_2.length : Int)) = true := decide_eq_true c101
                clear c101
                have H' := zm H
                clear H
                try go_wp2
                replace BK138 := zm (blk_drew BK138.out)
                replace HI0 := zm (IsS26.drew HI0.out)
                replace HK := zm (keep_drew HK.out)
                replace HB := zm (below_drew1 HB.out)
                obtain ⟨AS103_0, cS103_0, AS103_1, cS103_1, AS103_2, cS103_2, HG103, hg103, HS103_0, HS103_1, HS103_2⟩ := HI0.out
                have hx103_0 := cellS26_0 HG103
                have hx103_1 := cellS26_1 HG103
                have hx103_2 := cellS26_2 HG103
                clear HG103 hg103
                have p175 : 0 ≤ (a1_4 : Int) := of_decide_eq_true (by first | (with_reducible assumption) | assumption)
                have q175 : a1_4 < (s0_2.length : Int) := of_decide_eq_true (by first | (with_reducible assumption) | assumption)
                obtain ⟨ad175, A175_1, c175_1, e175, hx175_0, hx175_1, hl175_1, hi175_1⟩ := at_T66 HS103_2 a1_4 p175 q175
                have hw175_1 := hx175_1
                have hw175_0 := hx175_0
                cases e175
                replace hx175_0 := pw_cell_below HB.out hx175_0
                replace hx175_1 := pw_cell_below HB.out hx175_1
                have HZ175_1 := zm hi175_1
                have HC175_1 := zm hl175_1
                clear hi175_1 hl175_1
                replace p175 := eq_true p175
                replace q175 := eq_true q175
                refine start_ (n := 22) (S := fun w' => w'.cell? ⟨gb138, 0, none⟩ = some (.int .i64 a1_0) ∧ w'.cell? ⟨gb138, 1, none⟩ = some (.int .i64 a1_1) ∧ w'.cell? ⟨gb138, 2, none⟩ = some (.int .i64 a1_2) ∧ w'.cell? ⟨gb138, 3, none⟩ = some (.int .i64 a1_3) ∧ w'.cell? ⟨gb138, 4, none⟩ = some (.int .i64 a1_4) ∧ w'.cell? ⟨gb138, 5, none⟩ = some (.string a1_5) ∧ w'.cell? ⟨gb138, 6, none⟩ = some (.slice A1_6 l1_6.length c1_6) ∧ w'.cell? ⟨gb138, 7, none⟩ = some (.bool a1_7) ∧ w'.cell? ⟨g, 0, none⟩ = some (.slice AS103_0 s0_0.length cS103_0) ∧ w'.cell? ⟨g, 1, none⟩ = some (.slice AS103_1 s0_1.length cS103_1) ∧ w'.cell? ⟨g, 2, none⟩ = some (.slice (some ad175) s0_2.length cS103_2) ∧ w'.cell? (ad175.add ((a1_4).toNat * 2)) = some (.int .i64 ((rd_T66 s0_2 a1_4).f0)) ∧ w'.cell? ⟨(ad175.add ((a1_4).toNat * 2)).block, (ad175.add ((a1_4).toNat * 2)).off + 1, none⟩ = some (.slice A175_1 ((rd_T66 s0_2 a1_4).f1).length c175_1)) (ds := []) #[Z,Z,Z,Z,Z,Z,Z,Z,Z,Z,Z,Z,Z,Z,Z,Z,Z,Z,Z,Z,Z,Z] (by kernel_rfl) rfl rfl ⟨(blk_cell BK138.out 0).trans rfl, (blk_cell BK138.out 1).trans rfl, (blk_cell BK138.out 2).trans rfl, (blk_cell BK138.out 3).trans rfl, (blk_cell BK138.out 4).trans rfl, (blk_cell BK138.out 5).trans rfl, (blk_cell BK138.out 6).trans rfl, (blk_cell BK138.out 7).trans rfl, hx103_0, hx103_1, hx103_2, (pw_cell_below HB.out hw175_0), (pw_cell_below HB.out hw175_1)⟩ (fun hHeld => ?_); refine with_tabW kind_result.tab23 kind_result.bits23 (fun HT_ HW_ => ?_)
                generalize w95.drew = w102 at BK138 HI0 HK HB hx103_0 hx103_1 hx103_2 hx175_0 hx175_1 hHeld ⊢
                refine pure_ (i := 0) (N := some 74) (v := ?_) (a' := ?_) #[Y,Z,Z,Z,Z,Z,Z,Z,Z,Z,Z,Z,Z,Z,Z,Z,Z,Z,Z,Z,Z,Z] rfl rfl (any_of HT_.out (by kernel_rfl)) (fun _ _ _ h => h) (Or.inl ⟨by rfl, ?_⟩) ?_ ?_
                rotate_left
                ·intro w'
                 go_simp
                 with_reducible rfl
                rotate_left
                ·simp only [Act.put, zl1, zl2, zl3, i64_w, i32_w]
                 rfl
                refine pure_ (i := 2) (N := some 76) (v := ?_) (a' := ?_) #[Y,Z,Y,Z,Z,Z,Z,Z,Z,Z,Z,Z,Z,Z,Z,Z,Z,Z,Z,Z,Z,Z] rfl rfl (any_of HT_.out (by kernel_rfl)) (fun _ _ _ h => h) (Or.inl ⟨by rfl, ?_⟩) ?_ ?_
                rotate_left
                ·intro w'
                 go_simp
                 with_reducible rfl
                rotate_left
                ·simp only [Act.put, zl1, zl2, zl3, i64_w, i32_w]
                 rfl
                refine pure_ (i := 3) (N := some 77) (v := ?_) (a' := ?_) #[Y,Z,Y,Y,Z,Z,Z,Z,Z,Z,Z,Z,Z,Z,Z,Z,Z,Z,Z,Z,Z,Z] rfl rfl (any_of HT_.out (by kernel_rfl)) (fun _ _ _ h => h) (Or.inl ⟨by rfl, ?_⟩) ?_ ?_
                rotate_left
                ·intro w'
                 go_simp
                 with_reducible rfl
                rotate_left
                ·simp only [Act.put, zl1, zl2, zl3, i64_w, i32_w]
                 rfl
                refine pure_ (i := 4) (N := some 78) (v := ?_) (a' := ?_) #[Y,Z,Y,Y,Y,Z,Z,Z,Z,Z,Z,Z,Z,Z,Z,Z,Z,Z,Z,Z,Z,Z] rfl rfl (any_of HT_.out (by kernel_rfl)) (fun _ _ _ h => h) (Or.inl ⟨by rfl, ?_⟩) ?_ ?_
                rotate_left
                ·intro w'
                 go_simp
                 with_reducible rfl
                rotate_left
                ·simp only [Act.put, zl1, zl2, zl3, i64_w, i32_w]
                 rfl
                refine take_ (i := 1) (N := some 75) (v := ?_) (a' := ?_) #[Y,Y,Y,Y,Y,Z,Z,Z,Z,Z,Z,Z,Z,Z,Z,Z,Z,Z,Z,Z,Z,Z] rfl rfl (take_ofW HT_.out HW_.out (by kernel_rfl)) (fun _ _ _ h => h) (Or.inl ⟨by rfl, ?_⟩) hHeld ?_ ?_
                rotate_left
                ·rintro w' ⟨s0, s1, s2, s3, s4, s5, s6, s7, s8, s9, s10, s11, s12⟩
                 go_simp
                 with_reducible rfl
                rotate_left
                ·simp only [Act.put, zl1, zl2, zl3, i64_w, i32_w]
                 rfl
                refine take_ (i := 5) (N := some 79) (v := ?_) (a' := ?_) #[Y,Y,Y,Y,Y,Y,Z,Z,Z,Z,Z,Z,Z,Z,Z,Z,Z,Z,Z,Z,Z,Z] rfl rfl (take_ofW HT_.out HW_.out (by kernel_rfl)) (fun _ _ _ h => h) (Or.inl ⟨by rfl, ?_⟩) hHeld ?_ ?_
                rotate_left
                ·rintro w' ⟨s0, s1, s2, s3, s4, s5, s6, s7, s8, s9, s10, s11, s12⟩
                 go_simp
                 with_reducible rfl
                rotate_left
                ·simp only [Act.put, zl1, zl2, zl3, i64_w, i32_w]
                 rfl
                refine pure_ (i := 6) (N := some 80) (v := ?_) (a' := ?_) #[Y,Y,Y,Y,Y,Y,Y,Z,Z,Z,Z,Z,Z,Z,Z,Z,Z,Z,Z,Z,Z,Z] rfl rfl (any_of HT_.out (by kernel_rfl)) (fun _ _ _ h => h) (Or.inl ⟨by rfl, ?_⟩) ?_ ?_
                rotate_left
                ·intro w'
                 go_simp
                 with_reducible rfl
                rotate_left
                ·simp only [Act.put, zl1, zl2, zl3, i64_w, i32_w]
                 rfl
                refine one_ (i := 7) (N := some 81) #[Y,Y,Y,Y,Y,Y,Y,Y,Z,Z,Z,Z,Z,Z,Z,Z,Z,Z,Z,Z,Z,Z] rfl rfl (one_of HT_.out (by kernel_rfl)) (by decide) (fun K hK => ?_)
                refine goes_ Tryd.func39 (by kernel_rfl) rfl #[.int .i64 a1_4, .int .i64 (s0_2.length : Int)] (by rfl) rfl rfl (by (try simp only [List.map_toArray, List.map_cons, List.map_nil]); first | done | rfl | (simp only [List.length_drop, List.length_take]; rfl)) ?_
                with_reducible refine (kind_within.calls a1_4 (s0_2.length : Int) true _ A98.out).mono ?_
                rintro e w' ⟨rfl, ⟨nd, rfl⟩⟩
                refine ⟨_, rfl, ?_⟩
                have HR175_1 := zm (Kd.C_below HZ175_1.out HB.out)
                refine hK.out _ _ ⟨(blk_cell BK138.out 0).trans rfl, (blk_cell BK138.out 1).trans rfl, (blk_cell BK138.out 2).trans rfl, (blk_cell BK138.out 3).trans rfl, (blk_cell BK138.out 4).trans rfl, (blk_cell BK138.out 5).trans rfl, (blk_cell BK138.out 6).trans rfl, (blk_cell BK138.out 7).trans rfl, hHeld.2.2.2.2.2.2.2.2.1, hHeld.2.2.2.2.2.2.2.2.2.1, hHeld.2.2.2.2.2.2.2.2.2.2.1, (pw_cell_below HB.out hw175_0), (pw_cell_below HB.out hw175_1)⟩ (fun hHeld => ?_)
                clear hK K
                refine norm_ (a' := ?_) ?_ ?_
                rotate_left
                ·show Act.put _ (some 81) _ = _
                 simp only [Act.put, zl1, zl2, zl3, i64_w, i32_w]
                 rfl
                refine pure_ (i := 8) (N := some 82) (v := ?_) (a' := ?_) #[Y,Y,Y,Y,Y,Y,Y,Y,Y,Z,Z,Z,Z,Z,Z,Z,Z,Z,Z,Z,Z,Z] rfl rfl (any_of HT_.out (by kernel_rfl)) (fun _ _ _ h => h) (Or.inl ⟨by rfl, ?_⟩) ?_ ?_
                rotate_left
                ·intro w'
                 go_simp
                 with_reducible rfl
                rotate_left
                ·simp only [Act.put, zl1, zl2, zl3, i64_w, i32_w]
                 rfl
                refine pure_ (i := 9) (N := some 83) (v := ?_) (a' := ?_) #[Y,Y,Y,Y,Y,Y,Y,Y,Y,Y,Z,Z,Z,Z,Z,Z,Z,Z,Z,Z,Z,Z] rfl rfl (any_of HT_.out (by kernel_rfl)) (fun _ _ _ h => h) (Or.inl ⟨by rfl, ?_⟩) ?_ ?_
                rotate_left
                ·intro w'
                 go_simp
                 with_reducible rfl
                rotate_left
                ·simp only [Act.put, zl1, zl2, zl3, i64_w, i32_w]
                 rfl
                refine pure_ (i := 10) (N := some 84) (v := ?_) (a' := ?_) #[Y,Y,Y,Y,Y,Y,Y,Y,Y,Y,Y,Z,Z,Z,Z,Z,Z,Z,Z,Z,Z,Z] rfl rfl (any_of HT_.out (by kernel_rfl)) (fun _ _ _ h => h) (Or.inl ⟨by rfl, ?_⟩) ?_ ?_
                rotate_left
                ·intro w'
                 go_simp
                 with_reducible rfl
                rotate_left
                ·simp only [Act.put, zl1, zl2, zl3, i64_w, i32_w]
                 rfl
                refine pure_ (i := 11) (N := some 85) (v := ?_) (a' := ?_) #[Y,Y,Y,Y,Y,Y,Y,Y,Y,Y,Y,Y,Z,Z,Z,Z,Z,Z,Z,Z,Z,Z] rfl rfl (any_of HT_.out (by kernel_rfl)) (fun _ _ _ h => h) (Or.inl ⟨by rfl, ?_⟩) ?_ ?_
                rotate_left
                ·intro w'
                 go_simp
                 with_reducible rfl
                rotate_left
                ·simp only [Act.put, zl1, zl2, zl3, i64_w, i32_w]
                 rfl
                refine pure_ (i := 12) (N := some 86) (v := ?_) (a' := ?_) #[Y,Y,Y,Y,Y,Y,Y,Y,Y,Y,Y,Y,Y,Z,Z,Z,Z,Z,Z,Z,Z,Z] rfl rfl (any_of HT_.out (by kernel_rfl)) (fun _ _ _ h => h) (Or.inl ⟨by rfl, ?_⟩) ?_ ?_
                rotate_left
                ·intro w'
                 go_simp
                 with_reducible rfl
                rotate_left
                ·simp only [Act.put, zl1, zl2, zl3, i64_w, i32_w]
                 rfl
                refine pure_ (i := 14) (N := some 88) (v := ?_) (a' := ?_) #[Y,Y,Y,Y,Y,Y,Y,Y,Y,Y,Y,Y,Y,Z,Y,Z,Z,Z,Z,Z,Z,Z] rfl rfl (any_of HT_.out (by kernel_rfl)) (fun _ _ _ h => h) (Or.inl ⟨by rfl, ?_⟩) ?_ ?_
                rotate_left
                ·intro w'
                 go_simp
                 with_reducible rfl
                rotate_left
                ·simp only [Act.put, zl1, zl2, zl3, i64_w, i32_w]
                 rfl
                refine take_ (i := 13) (N := some 87) (v := ?_) (a' := ?_) #[Y,Y,Y,Y,Y,Y,Y,Y,Y,Y,Y,Y,Y,Y,Y,Z,Z,Z,Z,Z,Z,Z] rfl rfl (take_ofW HT_.out HW_.out (by kernel_rfl)) (fun _ _ _ h => h) (Or.inl ⟨by rfl, ?_⟩) hHeld ?_ ?_
                rotate_left
                ·rintro w' ⟨s0, s1, s2, s3, s4, s5, s6, s7, s8, s9, s10, s11, s12⟩
                 go_simp
                 with_reducible rfl
                rotate_left
                ·simp only [Act.put, zl1, zl2, zl3, i64_w, i32_w]
                 rfl
                refine take_ (i := 15) (N := some 89) (v := ?_) (a' := ?_) #[Y,Y,Y,Y,Y,Y,Y,Y,Y,Y,Y,Y,Y,Y,Y,Y,Z,Z,Z,Z,Z,Z] rfl rfl (take_ofW HT_.out HW_.out (by kernel_rfl)) (fun _ _ _ h => h) (Or.inl ⟨by rfl, ?_⟩) hHeld ?_ ?_
                rotate_left
                ·rintro w' ⟨s0, s1, s2, s3, s4, s5, s6, s7, s8, s9, s10, s11, s12⟩
                 go_simp
                 with_reducible rfl
                rotate_left
                ·simp only [Act.put, zl1, zl2, zl3, i64_w, i32_w]
                 rfl
                refine pure_ (i := 16) (N := some 90) (v := ?_) (a' := ?_) #[Y,Y,Y,Y,Y,Y,Y,Y,Y,Y,Y,Y,Y,Y,Y,Y,Y,Z,Z,Z,Z,Z] rfl rfl (any_of HT_.out (by kernel_rfl)) (fun _ _ _ h => h) (Or.inl ⟨by rfl, ?_⟩) ?_ ?_
                rotate_left
                ·intro w'
                 go_simp
                 with_reducible rfl
                rotate_left
                ·simp only [Act.put, zl1, zl2, zl3, i64_w, i32_w]
                 rfl
                refine pure_ (i := 17) (N := some 91) (v := ?_) (a' := ?_) #[Y,Y,Y,Y,Y,Y,Y,Y,Y,Y,Y,Y,Y,Y,Y,Y,Y,Y,Z,Z,Z,Z] rfl rfl (any_of HT_.out (by kernel_rfl)) (fun _ _ _ h => h) (Or.inl ⟨by rfl, ?_⟩) ?_ ?_
                rotate_left
                ·intro w'
                 go_simp
                 with_reducible rfl
                rotate_left
                ·simp only [Act.put, zl1, zl2, zl3, i64_w, i32_w]
                 rfl
                refine take_ (i := 18) (N := some 92) (v := ?_) (a' := ?_) #[Y,Y,Y,Y,Y,Y,Y,Y,Y,Y,Y,Y,Y,Y,Y,Y,Y,Y,Y,Z,Z,Z] rfl rfl (take_ofW HT_.out HW_.out (by kernel_rfl)) (fun _ _ _ h => h) (Or.inl ⟨by rfl, ?_⟩) hHeld ?_ ?_
                rotate_left
                ·rintro w' ⟨s0, s1, s2, s3, s4, s5, s6, s7, s8, s9, s10, s11, s12⟩
                 go_simp
                 with_reducible rfl
                rotate_left
                ·simp only [Act.put, zl1, zl2, zl3, i64_w, i32_w]
                 rfl
                refine pure_ (i := 19) (N := some 93) (v := ?_) (a' := ?_) #[Y,Y,Y,Y,Y,Y,Y,Y,Y,Y,Y,Y,Y,Y,Y,Y,Y,Y,Y,Y,Z,Z] rfl rfl (any_of HT_.out (by kernel_rfl)) (fun _ _ _ h => h) (Or.inl ⟨by rfl, ?_⟩) ?_ ?_
                rotate_left
                ·intro w'
                 go_simp
                 with_reducible rfl
                rotate_left
                ·simp only [Act.put, zl1, zl2, zl3, i64_w, i32_w]
                 rfl
                refine pure_ (i := 20) (N := some 94) (v := ?_) (a' := ?_) #[Y,Y,Y,Y,Y,Y,Y,Y,Y,Y,Y,Y,Y,Y,Y,Y,Y,Y,Y,Y,Y,Z] rfl rfl (any_of HT_.out (by kernel_rfl)) (fun _ _ _ h => h) (Or.inl ⟨by rfl, ?_⟩) ?_ ?_
                rotate_left
                ·intro w'
                 go_simp
                 with_reducible rfl
                rotate_left
                ·simp only [Act.put, zl1, zl2, zl3, i64_w, i32_w]
                 rfl
                refine pure_ (i := 21) (N := some 95) (v := ?_) (a' := ?_) #[Y,Y,Y,Y,Y,Y,Y,Y,Y,Y,Y,Y,Y,Y,Y,Y,Y,Y,Y,Y,Y,Y] rfl rfl (any_of HT_.out (by kernel_rfl)) (fun _ _ _ h => h) (Or.inl ⟨by rfl, ?_⟩) ?_ ?_
                rotate_left
                ·intro w'
                 go_simp
                 with_reducible rfl
                rotate_left
                ·simp only [Act.put, zl1, zl2, zl3, i64_w, i32_w]
                 rfl
                refine done_ (done_of HT_.out (by kernel_rfl)) ?_
                try go_wp2
                go_meet
                case rel => exact ⟨_, (((((rd_T66 s0_2 a1_4).f1).length : Int) == 0)), (by first | rfl | (simp; done) | (simp [*]; done) | (simp [*, wrap64]; done) | (simp [*]; unfold wrap64; omega)), H', ⟨by first | omega | exact Nat.le_refl _⟩, ⟨by (with_reducible repeat (first | refine blk_drewN ?_ _ | refine blk_drew ?_ | refine blk_alloc ?_ _)); exact BK138.out⟩, ⟨by repeat (first | (with_reducible first | exact HI0.out | apply IsS26.alloc | apply IsS26.drewN | apply IsS26.drew | refine IsS26.far ?_ NB0_138.out _) | exact HI0.out)⟩, ⟨by repeat (first | (with_reducible first | exact HK.out | apply KeepBut.set_ | apply keep_drewN | apply keep_drew | apply keep_alloc | refine keep_far ?_ GW138.out _) | exact HK.out)⟩, ⟨by repeat (first | (with_reducible first | exact HB.out | apply below_alloc | apply pw_below_drewN | apply below_drew1 | refine below_set ?_ (IsS26.ge HI0.out) | refine below_set ?_ GE138.out) | exact HB.out)⟩⟩
               ·rw [if_neg c101] at H
                exact absurd H (by simp)
              ·rw [if_neg c100] at H
               exact absurd H (by simp)
             ·replace c99 := Bool.eq_false_iff.mpr c99
              subst c99
              have H1 : (kind_result.j0 k l2 true s0_0 s0_1 s0_2 a1_0 a1_1 a1_2 a1_3 a1_4 a1_5 l1_6 a1_7) = some (r1, r2) := by rw [if_neg (show ¬ (false = true) by decide)] at H; exact H
              clear H
              have H := H1
              clear H1
              have H' := zm H
              clear H
              try go_wp2
              replace BK138 := zm (blk_drew BK138.out)
              replace HI0 := zm (IsS26.drew HI0.out)
              replace HK := zm (keep_drew HK.out)
              replace HB := zm (below_drew1 HB.out)
              obtain ⟨AS105_0, cS105_0, AS105_1, cS105_1, AS105_2, cS105_2, HG105, hg105, HS105_0, HS105_1, HS105_2⟩ := HI0.out
              have hx105_0 := cellS26_0 HG105
              have hx105_1 := cellS26_1 HG105
              have hx105_2 := cellS26_2 HG105
              clear HG105 hg105
              refine start_ (n := 22) (S := fun w' => w'.cell? ⟨gb138, 0, none⟩ = some (.int .i64 a1_0) ∧ w'.cell? ⟨gb138, 1, none⟩ = some (.int .i64 a1_1) ∧ w'.cell? ⟨gb138, 2, none⟩ = some (.int .i64 a1_2) ∧ w'.cell? ⟨gb138, 3, none⟩ = some (.int .i64 a1_3) ∧ w'.cell? ⟨gb138, 4, none⟩ = some (.int .i64 a1_4) ∧ w'.cell? ⟨gb138, 5, none⟩ = some (.string a1_5) ∧ w'.cell? ⟨gb138, 6, none⟩ = some (.slice A1_6 l1_6.length c1_6) ∧ w'.cell? ⟨gb138, 7, none⟩ = some (.bool a1_7) ∧ w'.cell? ⟨g, 0, none⟩ = some (.slice AS105_0 s0_0.length cS105_0) ∧ w'.cell? ⟨g, 1, none⟩ = some (.slice AS105_1 s0_1.length cS105_1) ∧ w'.cell? ⟨g, 2, none⟩ = some (.slice AS105_2 s0_2.length cS105_2)) (ds := []) #[Z,Z,Z,Z,Z,Z,Z,Z,Z,Z,Z,Z,Z,Z,Z,Z,Z,Z,Z,Z,Z,Z] (by kernel_rfl) rfl rfl ⟨(blk_cell BK138.out 0).trans rfl, (blk_cell BK138.out 1).trans rfl, (blk_cell BK138.out 2).trans rfl, (blk_cell BK138.out 3).trans rfl, (blk_cell BK138.out 4).trans rfl, (blk_cell BK138.out 5).trans rfl, (blk_cell BK138.out 6).trans rfl, (blk_cell BK138.out 7).trans rfl, hx105_0, hx105_1, hx105_2⟩ (fun hHeld => ?_); refine with_tabW kind_result.tab23 kind_result.bits23 (fun HT_ HW_ => ?_)
              generalize w95.drew = w104 at BK138 HI0 HK HB hx105_0 hx105_1 hx105_2 hHeld ⊢
              refine pure_ (i := 0) (N := some 74) (v := ?_) (a' := ?_) #[Y,Z,Z,Z,Z,Z,Z,Z,Z,Z,Z,Z,Z,Z,Z,Z,Z,Z,Z,Z,Z,Z] rfl rfl (any_of HT_.out (by kernel_rfl)) (fun _ _ _ h => h) (Or.inl ⟨by rfl, ?_⟩) ?_ ?_
              rotate_left
              ·intro w'
               go_simp
               with_reducible rfl
              rotate_left
              ·simp only [Act.put, zl1, zl2, zl3, i64_w, i32_w]
               rfl
              refine pure_ (i := 2) (N := some 76) (v := ?_) (a' := ?_) #[Y,Z,Y,Z,Z,Z,Z,Z,Z,Z,Z,Z,Z,Z,Z,Z,Z,Z,Z,Z,Z,Z] rfl rfl (any_of HT_.out (by kernel_rfl)) (fun _ _ _ h => h) (Or.inl ⟨by rfl, ?_⟩) ?_ ?_
              rotate_left
              ·intro w'
               go_simp
               with_reducible rfl
              rotate_left
              ·simp only [Act.put, zl1, zl2, zl3, i64_w, i32_w]
               rfl
              refine pure_ (i := 3) (N := some 77) (v := ?_) (a' := ?_) #[Y,Z,Y,Y,Z,Z,Z,Z,Z,Z,Z,Z,Z,Z,Z,Z,Z,Z,Z,Z,Z,Z] rfl rfl (any_of HT_.out (by kernel_rfl)) (fun _ _ _ h => h) (Or.inl ⟨by rfl, ?_⟩) ?_ ?_
              rotate_left
              ·intro w'
               go_simp
               with_reducible rfl
              rotate_left
              ·simp only [Act.put, zl1, zl2, zl3, i64_w, i32_w]
               rfl
              refine pure_ (i := 4) (N := some 78) (v := ?_) (a' := ?_) #[Y,Z,Y,Y,Y,Z,Z,Z,Z,Z,Z,Z,Z,Z,Z,Z,Z,Z,Z,Z,Z,Z] rfl rfl (any_of HT_.out (by kernel_rfl)) (fun _ _ _ h => h) (Or.inl ⟨by rfl, ?_⟩) ?_ ?_
              rotate_left
              ·intro w'
               go_simp
               with_reducible rfl
              rotate_left
              ·simp only [Act.put, zl1, zl2, zl3, i64_w, i32_w]
               rfl
              refine take_ (i := 1) (N := some 75) (v := ?_) (a' := ?_) #[Y,Y,Y,Y,Y,Z,Z,Z,Z,Z,Z,Z,Z,Z,Z,Z,Z,Z,Z,Z,Z,Z] rfl rfl (take_ofW HT_.out HW_.out (by kernel_rfl)) (fun _ _ _ h => h) (Or.inl ⟨by rfl, ?_⟩) hHeld ?_ ?_
              rotate_left
              ·rintro w' ⟨s0, s1, s2, s3, s4, s5, s6, s7, s8, s9, s10⟩
               go_simp
               with_reducible rfl
              rotate_left
              ·simp only [Act.put, zl1, zl2, zl3, i64_w, i32_w]
               rfl
              refine take_ (i := 5) (N := some 79) (v := ?_) (a' := ?_) #[Y,Y,Y,Y,Y,Y,Z,Z,Z,Z,Z,Z,Z,Z,Z,Z,Z,Z,Z,Z,Z,Z] rfl rfl (take_ofW HT_.out HW_.out (by kernel_rfl)) (fun _ _ _ h => h) (Or.inl ⟨by rfl, ?_⟩) hHeld ?_ ?_
              rotate_left
              ·rintro w' ⟨s0, s1, s2, s3, s4, s5, s6, s7, s8, s9, s10⟩
               go_simp
               with_reducible rfl
              rotate_left
              ·simp only [Act.put, zl1, zl2, zl3, i64_w, i32_w]
               rfl
              refine pure_ (i := 6) (N := some 80) (v := ?_) (a' := ?_) #[Y,Y,Y,Y,Y,Y,Y,Z,Z,Z,Z,Z,Z,Z,Z,Z,Z,Z,Z,Z,Z,Z] rfl rfl (any_of HT_.out (by kernel_rfl)) (fun _ _ _ h => h) (Or.inl ⟨by rfl, ?_⟩) ?_ ?_
              rotate_left
              ·intro w'
               go_simp
               with_reducible rfl
              rotate_left
              ·simp only [Act.put, zl1, zl2, zl3, i64_w, i32_w]
               rfl
              refine one_ (i := 7) (N := some 81) #[Y,Y,Y,Y,Y,Y,Y,Y,Z,Z,Z,Z,Z,Z,Z,Z,Z,Z,Z,Z,Z,Z] rfl rfl (one_of HT_.out (by kernel_rfl)) (by decide) (fun K hK => ?_)
              refine goes_ Tryd.func39 (by kernel_rfl) rfl #[.int .i64 a1_4, .int .i64 (s0_2.length : Int)] (by rfl) rfl rfl (by (try simp only [List.map_toArray, List.map_cons, List.map_nil]); first | done | rfl | (simp only [List.length_drop, List.length_take]; rfl)) ?_
              with_reducible refine (kind_within.calls a1_4 (s0_2.length : Int) false _ A98.out).mono ?_
              rintro e w' ⟨rfl, ⟨nd, rfl⟩⟩
              refine ⟨_, rfl, ?_⟩
              refine hK.out _ _ ⟨(blk_cell BK138.out 0).trans rfl, (blk_cell BK138.out 1).trans rfl, (blk_cell BK138.out 2).trans rfl, (blk_cell BK138.out 3).trans rfl, (blk_cell BK138.out 4).trans rfl, (blk_cell BK138.out 5).trans rfl, (blk_cell BK138.out 6).trans rfl, (blk_cell BK138.out 7).trans rfl, hHeld.2.2.2.2.2.2.2.2.1, hHeld.2.2.2.2.2.2.2.2.2.1, hHeld.2.2.2.2.2.2.2.2.2.2⟩ (fun hHeld => ?_)
              clear hK K
              refine norm_ (a' := ?_) ?_ ?_
              rotate_left
              ·show Act.put _ (some 81) _ = _
               simp only [Act.put, zl1, zl2, zl3, i64_w, i32_w]
               rfl
              refine pure_ (i := 8) (N := some 82) (v := ?_) (a' := ?_) #[Y,Y,Y,Y,Y,Y,Y,Y,Y,Z,Z,Z,Z,Z,Z,Z,Z,Z,Z,Z,Z,Z] rfl rfl (any_of HT_.out (by kernel_rfl)) (fun _ _ _ h => h) (Or.inl ⟨by rfl, ?_⟩) ?_ ?_
              rotate_left
              ·intro w'
               go_simp
               with_reducible rfl
              rotate_left
              ·simp only [Act.put, zl1, zl2, zl3, i64_w, i32_w]
               rfl
              refine pure_ (i := 9) (N := some 83) (v := ?_) (a' := ?_) #[Y,Y,Y,Y,Y,Y,Y,Y,Y,Y,Z,Z,Z,Z,Z,Z,Z,Z,Z,Z,Z,Z] rfl rfl (any_of HT_.out (by kernel_rfl)) (fun _ _ _ h => h) (Or.inl ⟨by rfl, ?_⟩) ?_ ?_
              rotate_left
              ·intro w'
               go_simp
               with_reducible rfl
              rotate_left
              ·simp only [Act.put, zl1, zl2, zl3, i64_w, i32_w]
               rfl
              refine pure_ (i := 10) (N := some 84) (v := undef) (a' := ?_) #[Y,Y,Y,Y,Y,Y,Y,Y,Y,Y,Y,Z,Z,Z,Z,Z,Z,Z,Z,Z,Z,Z] rfl rfl (any_of HT_.out (by kernel_rfl)) (fun _ _ _ h => h) (Or.inr ⟨by rfl, rfl⟩) ?_ ?_
              rotate_left
              ·simp only [Act.put, zl1, zl2, zl3, i64_w, i32_w]
               rfl
              refine pure_ (i := 11) (N := some 85) (v := undef) (a' := ?_) #[Y,Y,Y,Y,Y,Y,Y,Y,Y,Y,Y,Y,Z,Z,Z,Z,Z,Z,Z,Z,Z,Z] rfl rfl (any_of HT_.out (by kernel_rfl)) (fun _ _ _ h => h) (Or.inr ⟨by rfl, rfl⟩) ?_ ?_
              rotate_left
              ·simp only [Act.put, zl1, zl2, zl3, i64_w, i32_w]
               rfl
              refine pure_ (i := 12) (N := some 86) (v := undef) (a' := ?_) #[Y,Y,Y,Y,Y,Y,Y,Y,Y,Y,Y,Y,Y,Z,Z,Z,Z,Z,Z,Z,Z,Z] rfl rfl (any_of HT_.out (by kernel_rfl)) (fun _ _ _ h => h) (Or.inr ⟨by rfl, rfl⟩) ?_ ?_
              rotate_left
              ·simp only [Act.put, zl1, zl2, zl3, i64_w, i32_w]
               rfl
              refine pure_ (i := 13) (N := some 87) (v := undef) (a' := ?_) #[Y,Y,Y,Y,Y,Y,Y,Y,Y,Y,Y,Y,Y,Y,Z,Z,Z,Z,Z,Z,Z,Z] rfl rfl (any_of HT_.out (by kernel_rfl)) (fun _ _ _ h => h) (Or.inr ⟨by rfl, rfl⟩) ?_ ?_
              rotate_left
              ·simp only [Act.put, zl1, zl2, zl3, i64_w, i32_w]
               rfl
              refine pure_ (i := 14) (N := some 88) (v := undef) (a' := ?_) #[Y,Y,Y,Y,Y,Y,Y,Y,Y,Y,Y,Y,Y,Y,Y,Z,Z,Z,Z,Z,Z,Z] rfl rfl (any_of HT_.out (by kernel_rfl)) (fun _ _ _ h => h) (Or.inr ⟨by rfl, rfl⟩) ?_ ?_
              rotate_left
              ·simp only [Act.put, zl1, zl2, zl3, i64_w, i32_w]
               rfl
              refine pure_ (i := 15) (N := some 89) (v := undef) (a' := ?_) #[Y,Y,Y,Y,Y,Y,Y,Y,Y,Y,Y,Y,Y,Y,Y,Y,Z,Z,Z,Z,Z,Z] rfl rfl (any_of HT_.out (by kernel_rfl)) (fun _ _ _ h => h) (Or.inr ⟨by rfl, rfl⟩) ?_ ?_
              rotate_left
              ·simp only [Act.put, zl1, zl2, zl3, i64_w, i32_w]
               rfl
              refine pure_ (i := 16) (N := some 90) (v := undef) (a' := ?_) #[Y,Y,Y,Y,Y,Y,Y,Y,Y,Y,Y,Y,Y,Y,Y,Y,Y,Z,Z,Z,Z,Z] rfl rfl (any_of HT_.out (by kernel_rfl)) (fun _ _ _ h => h) (Or.inr ⟨by rfl, rfl⟩) ?_ ?_
              rotate_left
              ·simp only [Act.put, zl1, zl2, zl3, i64_w, i32_w]
               rfl
              refine pure_ (i := 17) (N := some 91) (v := undef) (a' := ?_) #[Y,Y,Y,Y,Y,Y,Y,Y,Y,Y,Y,Y,Y,Y,Y,Y,Y,Y,Z,Z,Z,Z] rfl rfl (any_of HT_.out (by kernel_rfl)) (fun _ _ _ h => h) (Or.inr ⟨by rfl, rfl⟩) ?_ ?_
              rotate_left
              ·simp only [Act.put, zl1, zl2, zl3, i64_w, i32_w]
               rfl
              refine pure_ (i := 18) (N := some 92) (v := undef) (a' := ?_) #[Y,Y,Y,Y,Y,Y,Y,Y,Y,Y,Y,Y,Y,Y,Y,Y,Y,Y,Y,Z,Z,Z] rfl rfl (any_of HT_.out (by kernel_rfl)) (fun _ _ _ h => h) (Or.inr ⟨by rfl, rfl⟩) ?_ ?_
              rotate_left
              ·simp only [Act.put, zl1, zl2, zl3, i64_w, i32_w]
               rfl
              refine pure_ (i := 19) (N := some 93) (v := undef) (a' := ?_) #[Y,Y,Y,Y,Y,Y,Y,Y,Y,Y,Y,Y,Y,Y,Y,Y,Y,Y,Y,Y,Z,Z] rfl rfl (any_of HT_.out (by kernel_rfl)) (fun _ _ _ h => h) (Or.inr ⟨by rfl, rfl⟩) ?_ ?_
              rotate_left
              ·simp only [Act.put, zl1, zl2, zl3, i64_w, i32_w]
               rfl
              refine pure_ (i := 20) (N := some 94) (v := undef) (a' := ?_) #[Y,Y,Y,Y,Y,Y,Y,Y,Y,Y,Y,Y,Y,Y,Y,Y,Y,Y,Y,Y,Y,Z] rfl rfl (any_of HT_.out (by kernel_rfl)) (fun _ _ _ h => h) (Or.inr ⟨by rfl, rfl⟩) ?_ ?_
              rotate_left
              ·simp only [Act.put, zl1, zl2, zl3, i64_w, i32_w]
               rfl
              refine pure_ (i := 21) (N := some 95) (v := ?_) (a' := ?_) #[Y,Y,Y,Y,Y,Y,Y,Y,Y,Y,Y,Y,Y,Y,Y,Y,Y,Y,Y,Y,Y,Y] rfl rfl (any_of HT_.out (by kernel_rfl)) (fun _ _ _ h => h) (Or.inl ⟨by rfl, ?_⟩) ?_ ?_
              rotate_left
              ·intro w'
               go_simp
               with_reducible rfl
              rotate_left
              ·simp only [Act.put, zl1, zl2, zl3, i64_w, i32_w]
               rfl
              refine done_ (done_of HT_.out (by kernel_rfl)) ?_
              try go_wp2
              go_meet
              case rel => exact ⟨_, (true), (by first | rfl | (simp; done) | (simp [*]; done) | (simp [*, wrap64]; done) | (simp [*]; unfold wrap64; omega)), H', ⟨by first | omega | exact Nat.le_refl _⟩, ⟨by (with_reducible repeat (first | refine blk_drewN ?_ _ | refine blk_drew ?_ | refine blk_alloc ?_ _)); exact BK138.out⟩, ⟨by repeat (first | (with_reducible first | exact HI0.out | apply IsS26.alloc | apply IsS26.drewN | apply IsS26.drew | refine IsS26.far ?_ NB0_138.out _) | exact HI0.out)⟩, ⟨by repeat (first | (with_reducible first | exact HK.out | apply KeepBut.set_ | apply keep_drewN | apply keep_drew | apply keep_alloc | refine keep_far ?_ GW138.out _) | exact HK.out)⟩, ⟨by repeat (first | (with_reducible first | exact HB.out | apply below_alloc | apply pw_below_drewN | apply below_drew1 | refine below_set ?_ (IsS26.ge HI0.out) | refine below_set ?_ GE138.out) | exact HB.out)⟩⟩
            case rest =>
             clear HC94
             try clear c1
             try clear p1
             try clear q1
             try clear hx1
             try clear c2
             try clear p2
             try clear c3
             try clear c4
             try clear c5
             try clear c6
             try clear c7
             try clear c8
             try clear c9
             try clear c10
             try clear hx10
             try clear c17
             try clear p17
             try clear q17
             try clear hx17
             try clear c18
             try clear c18b0
             try clear c18b1
             try clear c34
             try clear c34b0
             try clear c34b1
             try clear c37
             try clear c39
             try clear c41
             try clear c42
             try clear c42b0
             try clear c42b1
             try clear c45
             try clear c50
             try clear c50b0
             try clear c50b1
             try clear c53
             try clear c58
             try clear c58b0
             try clear c58b1
             try clear c61
             try clear c66
             try clear c66b0
             try clear c66b1
             try clear c69
             try clear c74
             try clear c74b0
             try clear c74b1
             try clear c76
             try clear c78
             try clear c85
             try clear c93
             try clear c93b0
             try clear c93b1
             try clear c96
             try clear c99
             try clear c100
             try clear c100b0
             try clear c101
             try clear c101b0
             try clear hx103
             try clear hx105
             try clear hcz38_0
             try clear hcz38_1
             try clear hcz38_2
             try clear hcz38_3
             try clear hcz38_4
             try clear hcz38_5
             try clear hcz38_6
             try clear hcz38_7
             try clear hcz46_0
             try clear hcz46_1
             try clear hcz46_2
             try clear hcz46_3
             try clear hcz46_4
             try clear hcz46_5
             try clear hcz46_6
             try clear hcz46_7
             try clear hcz54_0
             try clear hcz54_1
             try clear hcz54_2
             try clear hcz54_3
             try clear hcz54_4
             try clear hcz54_5
             try clear hcz54_6
             try clear hcz54_7
             try clear hcz62_0
             try clear hcz62_1
             try clear hcz62_2
             try clear hcz62_3
             try clear hcz62_4
             try clear hcz62_5
             try clear hcz62_6
             try clear hcz62_7
             try clear hcz70_0
             try clear hcz70_1
             try clear hcz70_2
             try clear hcz70_3
             try clear hcz70_4
             try clear hcz70_5
             try clear hcz70_6
             try clear hcz70_7
             try clear hcz79_0
             try clear hcz79_1
             try clear hcz79_2
             try clear hcz79_3
             try clear hcz79_4
             try clear hcz79_5
             try clear hcz79_6
             try clear hcz79_7
             try clear hcz86_0
             try clear hcz86_1
             try clear hcz86_2
             try clear hcz86_3
             try clear hcz86_4
             try clear hcz86_5
             try clear hcz86_6
             try clear hcz86_7
             try clear hcz97_0
             try clear hcz97_1
             try clear hcz97_2
             try clear hcz97_3
             try clear hcz97_4
             try clear hcz97_5
             try clear hcz97_6
             try clear hcz97_7
             try clear hfz38_0
             try clear hfz38_1
             try clear hfz38_2
             try clear hfz38_3
             try clear hfz38_4
             try clear hfz38_5
             try clear hfz38_6
             try clear hfz38_7
             try clear hfz46_0
             try clear hfz46_1
             try clear hfz46_2
             try clear hfz46_3
             try clear hfz46_4
             try clear hfz46_5
             try clear hfz46_6
             try clear hfz46_7
             try clear hfz54_0
             try clear hfz54_1
             try clear hfz54_2
             try clear hfz54_3
             try clear hfz54_4
             try clear hfz54_5
             try clear hfz54_6
             try clear hfz54_7
             try clear hfz62_0
             try clear hfz62_1
             try clear hfz62_2
             try clear hfz62_3
             try clear hfz62_4
             try clear hfz62_5
             try clear hfz62_6
             try clear hfz62_7
             try clear hfz70_0
             try clear hfz70_1
             try clear hfz70_2
             try clear hfz70_3
             try clear hfz70_4
             try clear hfz70_5
             try clear hfz70_6
             try clear hfz70_7
             try clear hfz79_0
             try clear hfz79_1
             try clear hfz79_2
             try clear hfz79_3
             try clear hfz79_4
             try clear hfz79_5
             try clear hfz79_6
             try clear hfz79_7
             try clear hfz86_0
             try clear hfz86_1
             try clear hfz86_2
             try clear hfz86_3
             try clear hfz86_4
             try clear hfz86_5
             try clear hfz86_6
             try clear hfz86_7
             try clear hfz97_0
             try clear hfz97_1
             try clear hfz97_2
             try clear hfz97_3
             try clear hfz97_4
             try clear hfz97_5
             try clear hfz97_6
             try clear hfz97_7
             try clear hx103_0
             try clear hx103_1
             try clear hx103_2
             try clear hx105_0
             try clear hx105_1
             try clear hx105_2
             try clear hx175_0
             try clear hx175_1
             try clear p175
             try clear q175
             obtain ⟨kq, x95_93, rfl, HA, HJ93, BK138, HI0, HK, HB⟩ := hcut
             cases kq with
             | zero => exact absurd HA.out (by simp [kind_result.j0])
             | succ kj93 =>
              have H := HA.out
              clear HA
              simp only [kind_result.j0] at H
              by_cases c106 : x95_93 = true
              ·subst c106
               have H1 : (some (0, false)) = some (r1, r2) := by rw [if_pos rfl] at H; exact H
               clear H
               have H := H1
               clear H1
               simp only [Option.some.injEq, Prod.mk.injEq] at H
               obtain ⟨rfl, rfl⟩ := H
               go_wp2
               go_ret2
               exact ⟨by first | rfl | (simp [errW_none, errW_some] <;> rfl) | (simp [*, errW_none, errW_some] <;> rfl), by repeat (first | (with_reducible first | exact HI0.out | apply IsS26.alloc | apply IsS26.drewN | apply IsS26.drew | refine IsS26.far ?_ NB0_138.out _) | exact HI0.out), by repeat (first | (with_reducible first | exact HB.out | apply below_alloc | apply pw_below_drewN | apply below_drew1 | refine below_set ?_ (IsS26.ge HI0.out) | refine below_set ?_ GE138.out) | exact HB.out), by repeat (first | (with_reducible first | exact HK.out | apply KeepBut.set_ | apply keep_drewN | apply keep_drew | apply keep_alloc | refine keep_far ?_ GW138.out _) | exact HK.out)⟩
              ·replace c106 := Bool.eq_false_iff.mpr c106
               subst c106
               have H1 : (if 0 ≤ a1_4 then (if a1_4 < (s0_2.length : Int) then (if 0 < (((rd_T66 s0_2 a1_4).f1).length : Int) then ((slices_Equal_int_int.f kj93 l2 ((rd_T71 ((rd_T66 s0_2 a1_4).f1) 0).f0)).bind fun t179 => (some ((rd_T66 s0_2 a1_4).f0, t179))) else (none)) else (none)) else (none)) = some (r1, r2) := by rw [if_neg (show ¬ (false = true) by decide)] at H; exact H
               clear H
               have H := H1
               clear H1
               by_cases c107 : 0 ≤ a1_4
               ·rw [if_pos c107] at H
                have c107b0 : decide (0 ≤ a1_4) = true := decide_eq_true c107
                clear c107
                by_cases c108 : a1_4 < (s0_2.length : Int)
                ·rw [if_pos c108] at H
                 have c108b0 : decide (a1_4 < (s0_2.length : Int)) = true := decide_eq_true c108
                 clear c108
                 by_cases c109 : 0 < (((rd_T66 s0_2 a1_4).f1).length : Int)
                 ·rw [if_pos c109] at H
                  have c109b0 : decide (0 < (((rd_T66 s0_2 a1_4).f1).length : Int)) = true := decide_eq_true c109
                  have c109b1 : decide (0 < ((rd_T66 s0_2 a1_4).f1).length) = true := decide_eq_true (by omega)
                  clear c109
                  replace H := Option.bind_eq_some_iff.mp H
                  obtain ⟨t179, A1100, H⟩ := H
                  replace H : (some ((rd_T66 s0_2 a1_4).f0, t179)) = some (r1, r2) := H
                  have A110 := zm A1100
                  clear A1100
                  simp only [Option.some.injEq, Prod.mk.injEq] at H
                  obtain ⟨rfl, rfl⟩ := H
                  try go_wp2
                  replace BK138 := zm (blk_drew BK138.out)
                  replace HI0 := zm (IsS26.drew HI0.out)
                  replace HK := zm (keep_drew HK.out)
                  replace HB := zm (below_drew1 HB.out)
                  obtain ⟨AS112_0, cS112_0, AS112_1, cS112_1, AS112_2, cS112_2, HG112, hg112, HS112_0, HS112_1, HS112_2⟩ := HI0.out
                  have hx112_0 := cellS26_0 HG112
                  have hx112_1 := cellS26_1 HG112
                  have hx112_2 := cellS26_2 HG112
                  clear HG112 hg112
                  have p176 : 0 ≤ (a1_4 : Int) := of_decide_eq_true (by first | (with_reducible assumption) | assumption)
                  have q176 : a1_4 < (s0_2.length : Int) := of_decide_eq_true (by first | (with_reducible assumption) | assumption)
                  obtain ⟨ad176, A176_1, c176_1, e176, hx176_0, hx176_1, hl176_1, hi176_1⟩ := at_T66 HS112_2 a1_4 p176 q176
                  have hw176_1 := hx176_1
                  have hw176_0 := hx176_0
                  cases e176
                  replace hx176_0 := pw_cell_below HB.out hx176_0
                  replace hx176_1 := pw_cell_below HB.out hx176_1
                  have HZ176_1 := zm hi176_1
                  have HC176_1 := zm hl176_1
                  clear hi176_1 hl176_1
                  have HR176_1 := zm (Kd.C_below HZ176_1.out HB.out)
                  replace p176 := eq_true p176
                  replace q176 := eq_true q176
                  refine start_ (n := 10) (S := fun w' => w'.cell? ⟨gb138, 0, none⟩ = some (.int .i64 a1_0) ∧ w'.cell? ⟨gb138, 1, none⟩ = some (.int .i64 a1_1) ∧ w'.cell? ⟨gb138, 2, none⟩ = some (.int .i64 a1_2) ∧ w'.cell? ⟨gb138, 3, none⟩ = some (.int .i64 a1_3) ∧ w'.cell? ⟨gb138, 4, none⟩ = some (.int .i64 a1_4) ∧ w'.cell? ⟨gb138, 5, none⟩ = some (.string a1_5) ∧ w'.cell? ⟨gb138, 6, none⟩ = some (.slice A1_6 l1_6.length c1_6) ∧ w'.cell? ⟨gb138, 7, none⟩ = some (.bool a1_7) ∧ w'.cell? ⟨g, 0, none⟩ = some (.slice AS112_0 s0_0.length cS112_0) ∧ w'.cell? ⟨g, 1, none⟩ = some (.slice AS112_1 s0_1.length cS112_1) ∧ w'.cell? ⟨g, 2, none⟩ = some (.slice (some ad176) s0_2.length cS112_2) ∧ w'.cell? (ad176.add ((a1_4).toNat * 2)) = some (.int .i64 ((rd_T66 s0_2 a1_4).f0)) ∧ w'.cell? ⟨(ad176.add ((a1_4).toNat * 2)).block, (ad176.add ((a1_4).toNat * 2)).off + 1, none⟩ = some (.slice A176_1 ((rd_T66 s0_2 a1_4).f1).length c176_1)) (ds := []) #[Z,Z,Z,Z,Z,Z,Z,Z,Z,Z] (by kernel_rfl) rfl rfl ⟨(blk_cell BK138.out 0).trans rfl, (blk_cell BK138.out 1).trans rfl, (blk_cell BK138.out 2).trans rfl, (blk_cell BK138.out 3).trans rfl, (blk_cell BK138.out 4).trans rfl, (blk_cell BK138.out 5).trans rfl, (blk_cell BK138.out 6).trans rfl, (blk_cell BK138.out 7).trans rfl, hx112_0, hx112_1, hx112_2, (pw_cell_below HB.out hw176_0), (pw_cell_below HB.out hw176_1)⟩ (fun hHeld => ?_); refine with_tabW kind_result.tab25 kind_result.bits25 (fun HT_ HW_ => ?_)
                  generalize wc.drew = w111 at BK138 HI0 HK HB HR176_1 hx112_0 hx112_1 hx112_2 hx176_0 hx176_1 hHeld ⊢
                  refine pure_ (i := 0) (N := some 96) (v := ?_) (a' := ?_) #[Y,Z,Z,Z,Z,Z,Z,Z,Z,Z] rfl rfl (any_of HT_.out (by kernel_rfl)) (fun _ _ _ h => h) (Or.inl ⟨by rfl, ?_⟩) ?_ ?_
                  rotate_left
                  ·intro w'
                   go_simp
                   with_reducible rfl
                  rotate_left
                  ·simp only [Act.put, zl1, zl2, zl3, i64_w, i32_w]
                   rfl
                  refine pure_ (i := 1) (N := some 97) (v := ?_) (a' := ?_) #[Y,Y,Z,Z,Z,Z,Z,Z,Z,Z] rfl rfl (any_of HT_.out (by kernel_rfl)) (fun _ _ _ h => h) (Or.inl ⟨by rfl, ?_⟩) ?_ ?_
                  rotate_left
                  ·intro w'
                   go_simp
                   with_reducible rfl
                  rotate_left
                  ·simp only [Act.put, zl1, zl2, zl3, i64_w, i32_w]
                   rfl
                  refine pure_ (i := 2) (N := some 98) (v := ?_) (a' := ?_) #[Y,Y,Y,Z,Z,Z,Z,Z,Z,Z] rfl rfl (any_of HT_.out (by kernel_rfl)) (fun _ _ _ h => h) (Or.inl ⟨by rfl, ?_⟩) ?_ ?_
                  rotate_left
                  ·intro w'
                   go_simp
                   with_reducible rfl
                  rotate_left
                  ·simp only [Act.put, zl1, zl2, zl3, i64_w, i32_w]
                   rfl
                  refine pure_ (i := 4) (N := some 100) (v := ?_) (a' := ?_) #[Y,Y,Y,Z,Y,Z,Z,Z,Z,Z] rfl rfl (any_of HT_.out (by kernel_rfl)) (fun _ _ _ h => h) (Or.inl ⟨by rfl, ?_⟩) ?_ ?_
                  rotate_left
                  ·intro w'
                   go_simp
                   with_reducible rfl
                  rotate_left
                  ·simp only [Act.put, zl1, zl2, zl3, i64_w, i32_w]
                   rfl
                  refine take_ (i := 3) (N := some 99) (v := ?_) (a' := ?_) #[Y,Y,Y,Y,Y,Z,Z,Z,Z,Z] rfl rfl (take_ofW HT_.out HW_.out (by kernel_rfl)) (fun _ _ _ h => h) (Or.inl ⟨by rfl, ?_⟩) hHeld ?_ ?_
                  rotate_left
                  ·rintro w' ⟨s0, s1, s2, s3, s4, s5, s6, s7, s8, s9, s10, s11, s12⟩
                   go_simp
                   with_reducible rfl
                  rotate_left
                  ·simp only [Act.put, zl1, zl2, zl3, i64_w, i32_w]
                   rfl
                  refine take_ (i := 5) (N := some 101) (v := ?_) (a' := ?_) #[Y,Y,Y,Y,Y,Y,Z,Z,Z,Z] rfl rfl (take_ofW HT_.out HW_.out (by kernel_rfl)) (fun _ _ _ h => h) (Or.inl ⟨by rfl, ?_⟩) hHeld ?_ ?_
                  rotate_left
                  ·rintro w' ⟨s0, s1, s2, s3, s4, s5, s6, s7, s8, s9, s10, s11, s12⟩
                   go_simp
                   with_reducible rfl
                  rotate_left
                  ·simp only [Act.put, zl1, zl2, zl3, i64_w, i32_w]
                   rfl
                  refine pure_ (i := 6) (N := some 102) (v := ?_) (a' := ?_) #[Y,Y,Y,Y,Y,Y,Y,Z,Z,Z] rfl rfl (any_of HT_.out (by kernel_rfl)) (fun _ _ _ h => h) (Or.inl ⟨by rfl, ?_⟩) ?_ ?_
                  rotate_left
                  ·intro w'
                   go_simp
                   with_reducible rfl
                  rotate_left
                  ·simp only [Act.put, zl1, zl2, zl3, i64_w, i32_w]
                   rfl
                  refine take_ (i := 7) (N := some 103) (v := ?_) (a' := ?_) #[Y,Y,Y,Y,Y,Y,Y,Y,Z,Z] rfl rfl (take_ofW HT_.out HW_.out (by kernel_rfl)) (fun _ _ _ h => h) (Or.inl ⟨by rfl, ?_⟩) hHeld ?_ ?_
                  rotate_left
                  ·rintro w' ⟨s0, s1, s2, s3, s4, s5, s6, s7, s8, s9, s10, s11, s12⟩
                   go_simp
                   with_reducible rfl
                  rotate_left
                  ·simp only [Act.put, zl1, zl2, zl3, i64_w, i32_w]
                   rfl
                  refine one_ (i := 8) (N := some 8) #[Y,Y,Y,Y,Y,Y,Y,Y,Y,Z] rfl rfl (one_of HT_.out (by kernel_rfl)) (by decide) (fun K hK => ?_)
                  refine box_step ?hg (N := 8) ?hd (cs := #[.int .i64 0, .slice none 0 0]) (t := 66) ?hr ?_; (case hd => rfl); (case hg => rfl); (case hr => first | (go_simp; done) | (go_simp; rfl))
                  intro gb177 hg w113 hbox hb
                  have HS8_ := zh hb (hHeld.2.2.2.2.2.2.2.2.1)
                  have HS9_ := zh hb (hHeld.2.2.2.2.2.2.2.2.2.1)
                  have HS10_ := zh hb (hHeld.2.2.2.2.2.2.2.2.2.2.1)
                  replace HB := zm (below_step (by repeat (first | (with_reducible first | exact HB.out | apply below_alloc | apply pw_below_drewN | apply below_drew1 | refine below_set ?_ (IsS26.ge HI0.out) | refine below_set ?_ GE138.out) | exact HB.out)) hb)
                  have BK177 := zm (hbox)
                  have GW177 := zm ((by rw [hg]; exact (keep_size (w := w) (g := g) (row := none) (by repeat (first | (with_reducible first | exact HK.out | apply KeepBut.set_ | apply keep_drewN | apply keep_drew | apply keep_alloc | refine keep_far ?_ GW138.out _) | exact HK.out))) : w.heap.size ≤ gb177))
                  have GE177 := zm ((Nat.le_trans HW0.out (by rw [hg]; exact (keep_size (w := w) (g := g) (row := none) (by repeat (first | (with_reducible first | exact HK.out | apply KeepBut.set_ | apply keep_drewN | apply keep_drew | apply keep_alloc | refine keep_far ?_ GW138.out _) | exact HK.out))) : w.heap.size ≤ gb177) : w0.heap.size ≤ gb177))
                  replace HK := zm (KeepBut.trans (by repeat (first | (with_reducible first | exact HK.out | apply KeepBut.set_ | apply keep_drewN | apply keep_drew | apply keep_alloc | refine keep_far ?_ GW138.out _) | exact HK.out)) (KeepBut.of_below hb g none) (.inl rfl))
                  have NB138_177 := zm ((by rw [hg]; exact Nat.ne_of_lt (blk_lt (g := gb138) (o := .cells #[.int .i64 a1_0, .int .i64 a1_1, .int .i64 a1_2, .int .i64 a1_3, .int .i64 a1_4, .string a1_5, .slice A1_6 l1_6.length c1_6, .bool a1_7] 33 (0, 0)) BK138.out) : gb138 ≠ gb177))
                  have NB177_138 := zm ((by rw [hg]; exact Nat.ne_of_gt (blk_lt (g := gb138) (o := .cells #[.int .i64 a1_0, .int .i64 a1_1, .int .i64 a1_2, .int .i64 a1_3, .int .i64 a1_4, .string a1_5, .slice A1_6 l1_6.length c1_6, .bool a1_7] 33 (0, 0)) BK138.out) : gb177 ≠ gb138))
                  replace BK138 := zm (blk_below (g := gb138) (o := .cells #[.int .i64 a1_0, .int .i64 a1_1, .int .i64 a1_2, .int .i64 a1_3, .int .i64 a1_4, .string a1_5, .slice A1_6 l1_6.length c1_6, .bool a1_7] 33 (0, 0)) BK138.out hb)
                  have NB0_177 := zm ((by rw [hg]; exact Nat.ne_of_lt (IsS26.lt (show IsS26 w0 _ g s0_0 s0_1 s0_2 from by repeat (first | (with_reducible first | exact HI0.out | apply IsS26.alloc | apply IsS26.drewN | apply IsS26.drew | refine IsS26.far ?_ NB0_138.out _) | exact HI0.out))) : g ≠ gb177))
                  have NB177_0 := zm ((by rw [hg]; exact Nat.ne_of_gt (IsS26.lt (show IsS26 w0 _ g s0_0 s0_1 s0_2 from by repeat (first | (with_reducible first | exact HI0.out | apply IsS26.alloc | apply IsS26.drewN | apply IsS26.drew | refine IsS26.far ?_ NB0_138.out _) | exact HI0.out))) : gb177 ≠ g))
                  replace HI0 := zm (IsS26.below (by repeat (first | (with_reducible first | exact HI0.out | apply IsS26.alloc | apply IsS26.drewN | apply IsS26.drew | refine IsS26.far ?_ NB0_138.out _) | exact HI0.out)) hb)
                  clear hb hbox hg
                  refine hK.out _ _ ⟨(blk_cell BK138.out 0).trans rfl, (blk_cell BK138.out 1).trans rfl, (blk_cell BK138.out 2).trans rfl, (blk_cell BK138.out 3).trans rfl, (blk_cell BK138.out 4).trans rfl, (blk_cell BK138.out 5).trans rfl, (blk_cell BK138.out 6).trans rfl, (blk_cell BK138.out 7).trans rfl, HS8_, HS9_, HS10_, (pw_cell_below HB.out hw176_0), (pw_cell_below HB.out hw176_1)⟩ (fun hHeld => ?_)
                  clear hK K
                  refine norm_ (a' := ?_) ?_ ?_
                  rotate_left
                  ·show Act.put _ (some 8) _ = _
                   simp only [Act.put, zl1, zl2, zl3, i64_w, i32_w]
                   rfl
                  refine one_ (i := 9) (N := none) #[Y,Y,Y,Y,Y,Y,Y,Y,Y,Y] rfl rfl (one_of HT_.out (by kernel_rfl)) (by decide) (fun K hK => ?_)
                  have hs114 : w113.cell? ⟨gb177, 0, none⟩ = some (.int .i64 0) := (blk_cell BK177.out 0).trans rfl
                  have hfs114 := blk_frozen BK177.out 0
                  have hns114_0 := NB138_177.out
                  have hms114_0 := NB177_138.out
                  have hs115 : w113.cell? ⟨gb177, 1, none⟩ = some (.slice none 0 0) := (blk_cell BK177.out 1).trans rfl
                  have hfs115 := blk_frozen BK177.out 1
                  have hns115_0 := NB138_177.out
                  have hms115_0 := NB177_138.out
                  refine skip_ (w1 := ?_) (by rfl) rfl ?_ ?_
                  rotate_left
                  ·go_simp
                   rfl
                  refine hK.out _ _ ⟨((cell_far (p := ⟨gb177, _, none⟩) NB138_177.out _).trans (((cell_far (p := ⟨gb177, _, none⟩) NB138_177.out _).trans (hHeld.1)))), ((cell_far (p := ⟨gb177, _, none⟩) NB138_177.out _).trans (((cell_far (p := ⟨gb177, _, none⟩) NB138_177.out _).trans (hHeld.2.1)))), ((cell_far (p := ⟨gb177, _, none⟩) NB138_177.out _).trans (((cell_far (p := ⟨gb177, _, none⟩) NB138_177.out _).trans (hHeld.2.2.1)))), ((cell_far (p := ⟨gb177, _, none⟩) NB138_177.out _).trans (((cell_far (p := ⟨gb177, _, none⟩) NB138_177.out _).trans (hHeld.2.2.2.1)))), ((cell_far (p := ⟨gb177, _, none⟩) NB138_177.out _).trans (((cell_far (p := ⟨gb177, _, none⟩) NB138_177.out _).trans (hHeld.2.2.2.2.1)))), ((cell_far (p := ⟨gb177, _, none⟩) NB138_177.out _).trans (((cell_far (p := ⟨gb177, _, none⟩) NB138_177.out _).trans (hHeld.2.2.2.2.2.1)))), ((cell_far (p := ⟨gb177, _, none⟩) NB138_177.out _).trans (((cell_far (p := ⟨gb177, _, none⟩) NB138_177.out _).trans (hHeld.2.2.2.2.2.2.1)))), ((cell_far (p := ⟨gb177, _, none⟩) NB138_177.out _).trans (((cell_far (p := ⟨gb177, _, none⟩) NB138_177.out _).trans (hHeld.2.2.2.2.2.2.2.1)))), ((cell_far (p := ⟨gb177, _, none⟩) (by first | exact NB0_177.out | (rw [add_block]; exact NB0_177.out) | (show (Addr.add _ _).block ≠ _; rw [add_block]; exact NB0_177.out) | (dsimp only; exact NB0_177.out)) _).trans (((cell_far (p := ⟨gb177, _, none⟩) (by first | exact NB0_177.out | (rw [add_block]; exact NB0_177.out) | (show (Addr.add _ _).block ≠ _; rw [add_block]; exact NB0_177.out) | (dsimp only; exact NB0_177.out)) _).trans (hHeld.2.2.2.2.2.2.2.2.1)))), ((cell_far (p := ⟨gb177, _, none⟩) (by first | exact NB0_177.out | (rw [add_block]; exact NB0_177.out) | (show (Addr.add _ _).block ≠ _; rw [add_block]; exact NB0_177.out) | (dsimp only; exact NB0_177.out)) _).trans (((cell_far (p := ⟨gb177, _, none⟩) (by first | exact NB0_177.out | (rw [add_block]; exact NB0_177.out) | (show (Addr.add _ _).block ≠ _; rw [add_block]; exact NB0_177.out) | (dsimp only; exact NB0_177.out)) _).trans (hHeld.2.2.2.2.2.2.2.2.2.1)))), ((cell_far (p := ⟨gb177, _, none⟩) (by first | exact NB0_177.out | (rw [add_block]; exact NB0_177.out) | (show (Addr.add _ _).block ≠ _; rw [add_block]; exact NB0_177.out) | (dsimp only; exact NB0_177.out)) _).trans (((cell_far (p := ⟨gb177, _, none⟩) (by first | exact NB0_177.out | (rw [add_block]; exact NB0_177.out) | (show (Addr.add _ _).block ≠ _; rw [add_block]; exact NB0_177.out) | (dsimp only; exact NB0_177.out)) _).trans (hHeld.2.2.2.2.2.2.2.2.2.2.1)))), ((cell_far (p := ⟨gb177, _, none⟩) (by first | exact Nat.ne_of_lt (Nat.lt_of_lt_of_le (by have := World.block_lt_of_cell? _ _ hw176_0; first | rwa [add_block] at this | exact this) GE177.out) | (rw [add_block]; exact Nat.ne_of_lt (Nat.lt_of_lt_of_le (by have := World.block_lt_of_cell? _ _ hw176_0; first | rwa [add_block] at this | exact this) GE177.out)) | (show (Addr.add _ _).block ≠ _; rw [add_block]; exact Nat.ne_of_lt (Nat.lt_of_lt_of_le (by have := World.block_lt_of_cell? _ _ hw176_0; first | rwa [add_block] at this | exact this) GE177.out)) | (dsimp only; exact Nat.ne_of_lt (Nat.lt_of_lt_of_le (by have := World.block_lt_of_cell? _ _ hw176_0; first | rwa [add_block] at this | exact this) GE177.out))) _).trans (((cell_far (p := ⟨gb177, _, none⟩) (by first | exact Nat.ne_of_lt (Nat.lt_of_lt_of_le (by have := World.block_lt_of_cell? _ _ hw176_0; first | rwa [add_block] at this | exact this) GE177.out) | (rw [add_block]; exact Nat.ne_of_lt (Nat.lt_of_lt_of_le (by have := World.block_lt_of_cell? _ _ hw176_0; first | rwa [add_block] at this | exact this) GE177.out)) | (show (Addr.add _ _).block ≠ _; rw [add_block]; exact Nat.ne_of_lt (Nat.lt_of_lt_of_le (by have := World.block_lt_of_cell? _ _ hw176_0; first | rwa [add_block] at this | exact this) GE177.out)) | (dsimp only; exact Nat.ne_of_lt (Nat.lt_of_lt_of_le (by have := World.block_lt_of_cell? _ _ hw176_0; first | rwa [add_block] at this | exact this) GE177.out))) _).trans (hHeld.2.2.2.2.2.2.2.2.2.2.2.1)))), ((cell_far (p := ⟨gb177, _, none⟩) (by first | exact Nat.ne_of_lt (Nat.lt_of_lt_of_le (by have := World.block_lt_of_cell? _ _ hw176_1; first | rwa [add_block] at this | exact this) GE177.out) | (rw [add_block]; exact Nat.ne_of_lt (Nat.lt_of_lt_of_le (by have := World.block_lt_of_cell? _ _ hw176_1; first | rwa [add_block] at this | exact this) GE177.out)) | (show (Addr.add _ _).block ≠ _; rw [add_block]; exact Nat.ne_of_lt (Nat.lt_of_lt_of_le (by have := World.block_lt_of_cell? _ _ hw176_1; first | rwa [add_block] at this | exact this) GE177.out)) | (dsimp only; exact Nat.ne_of_lt (Nat.lt_of_lt_of_le (by have := World.block_lt_of_cell? _ _ hw176_1; first | rwa [add_block] at this | exact this) GE177.out))) _).trans (((cell_far (p := ⟨gb177, _, none⟩) (by first | exact Nat.ne_of_lt (Nat.lt_of_lt_of_le (by have := World.block_lt_of_cell? _ _ hw176_1; first | rwa [add_block] at this | exact this) GE177.out) | (rw [add_block]; exact Nat.ne_of_lt (Nat.lt_of_lt_of_le (by have := World.block_lt_of_cell? _ _ hw176_1; first | rwa [add_block] at this | exact this) GE177.out)) | (show (Addr.add _ _).block ≠ _; rw [add_block]; exact Nat.ne_of_lt (Nat.lt_of_lt_of_le (by have := World.block_lt_of_cell? _ _ hw176_1; first | rwa [add_block] at this | exact this) GE177.out)) | (dsimp only; exact Nat.ne_of_lt (Nat.lt_of_lt_of_le (by have := World.block_lt_of_cell? _ _ hw176_1; first | rwa [add_block] at this | exact this) GE177.out))) _).trans (hHeld.2.2.2.2.2.2.2.2.2.2.2.2))))⟩ (fun hHeld => ?_)
                  clear hK K
                  refine done_ (done_of HT_.out (by kernel_rfl)) ?_
                  try go_wp2
                  have n0_ : Aside0 (((w113.setCell ⟨gb177, 0, none⟩ (.int .i64 ((rd_T66 s0_2 a1_4).f0))).setCell ⟨gb177, 1, none⟩ (.slice A176_1 ((rd_T66 s0_2 a1_4).f1).length c176_1)).heap[gb138]? = some (.cells #[.int .i64 a1_0, .int .i64 a1_1, .int .i64 a1_2, .int .i64 a1_3, .int .i64 a1_4, .string a1_5, .slice A1_6 l1_6.length c1_6, .bool a1_7] 33 (0, 0))) := ⟨by (with_reducible repeat (first | refine blk_drewN ?_ _ | refine blk_drew ?_ | refine blk_alloc ?_ _)); refine blk_far ?_ NB138_177.out _; (with_reducible repeat (first | refine blk_drewN ?_ _ | refine blk_drew ?_ | refine blk_alloc ?_ _)); refine blk_far ?_ NB138_177.out _; (with_reducible repeat (first | refine blk_drewN ?_ _ | refine blk_drew ?_ | refine blk_alloc ?_ _)); exact BK138.out⟩
                  have n1_ : Aside0 (((w113.setCell ⟨gb177, 0, none⟩ (.int .i64 ((rd_T66 s0_2 a1_4).f0))).setCell ⟨gb177, 1, none⟩ (.slice A176_1 ((rd_T66 s0_2 a1_4).f1).length c176_1)).heap[gb177]? = some (.cells #[.int .i64 ((rd_T66 s0_2 a1_4).f0), .slice A176_1 ((rd_T66 s0_2 a1_4).f1).length c176_1] 66 (0, 0))) := ⟨by (with_reducible repeat (first | refine blk_drewN ?_ _ | refine blk_drew ?_ | refine blk_alloc ?_ _)); refine blk_put (cs := #[.int .i64 ((rd_T66 s0_2 a1_4).f0), .slice none 0 0]) ?_ 1 _ rfl; (with_reducible repeat (first | refine blk_drewN ?_ _ | refine blk_drew ?_ | refine blk_alloc ?_ _)); refine blk_put (cs := #[.int .i64 0, .slice none 0 0]) ?_ 0 _ rfl; (with_reducible repeat (first | refine blk_drewN ?_ _ | refine blk_drew ?_ | refine blk_alloc ?_ _)); exact BK177.out⟩
                  have n2_ : Aside0 (IsS26 w0 ((w113.setCell ⟨gb177, 0, none⟩ (.int .i64 ((rd_T66 s0_2 a1_4).f0))).setCell ⟨gb177, 1, none⟩ (.slice A176_1 ((rd_T66 s0_2 a1_4).f1).length c176_1)) g s0_0 s0_1 s0_2) := ⟨by repeat (first | (with_reducible first | exact HI0.out | apply IsS26.alloc | apply IsS26.drewN | apply IsS26.drew | refine IsS26.far ?_ NB0_138.out _ | refine IsS26.far ?_ NB0_177.out _) | exact HI0.out)⟩
                  have n3_ : Aside0 (KeepBut w ((w113.setCell ⟨gb177, 0, none⟩ (.int .i64 ((rd_T66 s0_2 a1_4).f0))).setCell ⟨gb177, 1, none⟩ (.slice A176_1 ((rd_T66 s0_2 a1_4).f1).length c176_1)) g none) := ⟨by repeat (first | (with_reducible first | exact HK.out | apply KeepBut.set_ | apply keep_drewN | apply keep_drew | apply keep_alloc | refine keep_far ?_ GW138.out _ | refine keep_far ?_ GW177.out _) | exact HK.out)⟩
                  have n4_ : Aside0 (Below w0.heap.size w0 ((w113.setCell ⟨gb177, 0, none⟩ (.int .i64 ((rd_T66 s0_2 a1_4).f0))).setCell ⟨gb177, 1, none⟩ (.slice A176_1 ((rd_T66 s0_2 a1_4).f1).length c176_1))) := ⟨by repeat (first | (with_reducible first | exact HB.out | apply below_alloc | apply pw_below_drewN | apply below_drew1 | refine below_set ?_ (IsS26.ge HI0.out) | refine below_set ?_ GE138.out | refine below_set ?_ GE177.out) | exact HB.out)⟩
                  (try clear BK138)
                  (try clear BK177)
                  (try clear HI0)
                  (try clear HK)
                  (try clear HB)
                  generalize ((w113.setCell ⟨gb177, 0, none⟩ (.int .i64 ((rd_T66 s0_2 a1_4).f0))).setCell ⟨gb177, 1, none⟩ (.slice A176_1 ((rd_T66 s0_2 a1_4).f1).length c176_1)) = w116 at n0_ n1_ n2_ n3_ n4_ ⊢
                  have BK138 := n0_
                  have BK177 := n1_
                  have HI0 := n2_
                  have HK := n3_
                  have HB := n4_
                  clear n0_ n1_ n2_ n3_ n4_
                  replace BK138 := zm (blk_drew BK138.out)
                  replace BK177 := zm (blk_drew BK177.out)
                  replace HI0 := zm (IsS26.drew HI0.out)
                  replace HK := zm (keep_drew HK.out)
                  replace HB := zm (below_drew1 HB.out)
                  have p178 : 0 ≤ (0 : Int) := (by omega)
                  have q178 : 0 < (((rd_T66 s0_2 a1_4).f1).length : Int) := of_decide_eq_true (by first | (with_reducible assumption) | assumption)
                  obtain ⟨ad178, A178_0, c178_0, A178_1, c178_1, A178_6, c178_6, A178_7, c178_7, e178, hx178_0, hx178_1, hx178_2, hx178_3, hx178_4, hx178_5, hx178_6, hx178_7, hl178_0, hi178_0, hl178_1, hi178_1, hl178_6, hi178_6, hl178_7, hi178_7⟩ := at_T71 ((Kd.C_below HZ176_1.out (by repeat (first | (with_reducible first | exact HB.out | apply below_alloc | apply pw_below_drewN | apply below_drew1 | refine below_set ?_ (IsS26.ge HI0.out) | refine below_set ?_ GE138.out | refine below_set ?_ GE177.out) | exact HB.out)))) 0 p178 q178
                  cases e178
                  have qi178 : (0 < ((rd_T66 s0_2 a1_4).f1).length) = True := eq_true (by omega)
                  (try rw [show ((0 : Int)).toNat = 0 from rfl] at hx178_0)
                  (try rw [show 0 * 8 = 0 from rfl] at hx178_0)
                  (try rw [Addr.add_zero'] at hx178_0)
                  (try rw [show ((0 : Int)).toNat = 0 from rfl] at hx178_1)
                  (try rw [show 0 * 8 = 0 from rfl] at hx178_1)
                  (try rw [Addr.add_zero'] at hx178_1)
                  (try rw [show ((0 : Int)).toNat = 0 from rfl] at hx178_2)
                  (try rw [show 0 * 8 = 0 from rfl] at hx178_2)
                  (try rw [Addr.add_zero'] at hx178_2)
                  (try rw [show ((0 : Int)).toNat = 0 from rfl] at hx178_3)
                  (try rw [show 0 * 8 = 0 from rfl] at hx178_3)
                  (try rw [Addr.add_zero'] at hx178_3)
                  (try rw [show ((0 : Int)).toNat = 0 from rfl] at hx178_4)
                  (try rw [show 0 * 8 = 0 from rfl] at hx178_4)
                  (try rw [Addr.add_zero'] at hx178_4)
                  (try rw [show ((0 : Int)).toNat = 0 from rfl] at hx178_5)
                  (try rw [show 0 * 8 = 0 from rfl] at hx178_5)
                  (try rw [Addr.add_zero'] at hx178_5)
                  (try rw [show ((0 : Int)).toNat = 0 from rfl] at hx178_6)
                  (try rw [show 0 * 8 = 0 from rfl] at hx178_6)
                  (try rw [Addr.add_zero'] at hx178_6)
                  (try rw [show ((0 : Int)).toNat = 0 from rfl] at hx178_7)
                  (try rw [show 0 * 8 = 0 from rfl] at hx178_7)
                  (try rw [Addr.add_zero'] at hx178_7)
                  have HR178_0 := zm hi178_0
                  have HC178_0 := zm hl178_0
                  clear hi178_0 hl178_0
                  have HR178_1 := zm hi178_1
                  have HC178_1 := zm hl178_1
                  clear hi178_1 hl178_1
                  have HR178_6 := zm hi178_6
                  have HC178_6 := zm hl178_6
                  clear hi178_6 hl178_6
                  have HR178_7 := zm hi178_7
                  have HC178_7 := zm hl178_7
                  clear hi178_7 hl178_7
                  replace p178 := eq_true p178
                  replace q178 := eq_true q178
                  refine start_ (n := 11) (S := fun w' => w'.cell? ⟨gb177, 0, none⟩ = some (.int .i64 ((rd_T66 s0_2 a1_4).f0)) ∧ w'.cell? ⟨gb177, 1, none⟩ = some (.slice (some ad178) ((rd_T66 s0_2 a1_4).f1).length c176_1) ∧ w'.cell? ad178 = some (.slice A178_0 ((rd_T71 ((rd_T66 s0_2 a1_4).f1) 0).f0).length c178_0) ∧ w'.cell? ⟨ad178.block, ad178.off + 1, none⟩ = some (.slice A178_1 ((rd_T71 ((rd_T66 s0_2 a1_4).f1) 0).f1).length c178_1) ∧ w'.cell? ⟨ad178.block, ad178.off + 2, none⟩ = some (.int .i64 ((rd_T71 ((rd_T66 s0_2 a1_4).f1) 0).f2.f0)) ∧ w'.cell? ⟨ad178.block, ad178.off + 3, none⟩ = some (.int .i64 ((rd_T71 ((rd_T66 s0_2 a1_4).f1) 0).f2.f1)) ∧ w'.cell? ⟨ad178.block, ad178.off + 4, none⟩ = some (.int .i64 ((rd_T71 ((rd_T66 s0_2 a1_4).f1) 0).f2.f2)) ∧ w'.cell? ⟨ad178.block, ad178.off + 5, none⟩ = some (.int .i64 ((rd_T71 ((rd_T66 s0_2 a1_4).f1) 0).f2.f3)) ∧ w'.cell? ⟨ad178.block, ad178.off + 6, none⟩ = some (.slice A178_6 ((rd_T71 ((rd_T66 s0_2 a1_4).f1) 0).f2.f4).length c178_6) ∧ w'.cell? ⟨ad178.block, ad178.off + 7, none⟩ = some (.slice A178_7 ((rd_T71 ((rd_T66 s0_2 a1_4).f1) 0).f2.f5).length c178_7)) (ds := []) #[Z,Z,Z,Z,Z,Z,Z,Z,Z,Z,Z] (by kernel_rfl) rfl rfl ⟨(blk_cell BK177.out 0).trans rfl, (blk_cell BK177.out 1).trans rfl, hx178_0, hx178_1, hx178_2, hx178_3, hx178_4, hx178_5, hx178_6, hx178_7⟩ (fun hHeld => ?_); refine with_tabW kind_result.tab26 kind_result.bits26 (fun HT_ HW_ => ?_)
                  generalize w116.drew = w117 at BK138 BK177 HI0 HK HB HR178_0 HR178_1 HR178_6 HR178_7 hx178_0 hx178_1 hx178_2 hx178_3 hx178_4 hx178_5 hx178_6 hx178_7 hHeld ⊢
                  refine pure_ (i := 0) (N := some 104) (v := ?_) (a' := ?_) #[Y,Z,Z,Z,Z,Z,Z,Z,Z,Z,Z] rfl rfl (any_of HT_.out (by kernel_rfl)) (fun _ _ _ h => h) (Or.inl ⟨by rfl, ?_⟩) ?_ ?_
                  rotate_left
                  ·intro w'
                   go_simp
                   with_reducible rfl
                  rotate_left
                  ·simp only [Act.put, zl1, zl2, zl3, i64_w, i32_w]
                   rfl
                  refine pure_ (i := 2) (N := some 106) (v := ?_) (a' := ?_) #[Y,Z,Y,Z,Z,Z,Z,Z,Z,Z,Z] rfl rfl (any_of HT_.out (by kernel_rfl)) (fun _ _ _ h => h) (Or.inl ⟨by rfl, ?_⟩) ?_ ?_
                  rotate_left
                  ·intro w'
                   go_simp
                   with_reducible rfl
                  rotate_left
                  ·simp only [Act.put, zl1, zl2, zl3, i64_w, i32_w]
                   rfl
                  refine pure_ (i := 3) (N := some 107) (v := ?_) (a' := ?_) #[Y,Z,Y,Y,Z,Z,Z,Z,Z,Z,Z] rfl rfl (any_of HT_.out (by kernel_rfl)) (fun _ _ _ h => h) (Or.inl ⟨by rfl, ?_⟩) ?_ ?_
                  rotate_left
                  ·intro w'
                   go_simp
                   with_reducible rfl
                  rotate_left
                  ·simp only [Act.put, zl1, zl2, zl3, i64_w, i32_w]
                   rfl
                  refine take_ (i := 1) (N := some 105) (v := ?_) (a' := ?_) #[Y,Y,Y,Y,Z,Z,Z,Z,Z,Z,Z] rfl rfl (take_ofW HT_.out HW_.out (by kernel_rfl)) (fun _ _ _ h => h) (Or.inl ⟨by rfl, ?_⟩) hHeld ?_ ?_
                  rotate_left
                  ·rintro w' ⟨s0, s1, s2, s3, s4, s5, s6, s7, s8, s9⟩
                   go_simp
                   with_reducible rfl
                  rotate_left
                  ·simp only [Act.put, zl1, zl2, zl3, i64_w, i32_w]
                   rfl
                  refine take_ (i := 4) (N := some 108) (v := ?_) (a' := ?_) #[Y,Y,Y,Y,Y,Z,Z,Z,Z,Z,Z] rfl rfl (take_ofW HT_.out HW_.out (by kernel_rfl)) (fun _ _ _ h => h) (Or.inl ⟨by rfl, ?_⟩) hHeld ?_ ?_
                  rotate_left
                  ·rintro w' ⟨s0, s1, s2, s3, s4, s5, s6, s7, s8, s9⟩
                   go_simp
                   with_reducible rfl
                  rotate_left
                  ·simp only [Act.put, zl1, zl2, zl3, i64_w, i32_w]
                   rfl
                  refine pure_ (i := 5) (N := some 109) (v := ?_) (a' := ?_) #[Y,Y,Y,Y,Y,Y,Z,Z,Z,Z,Z] rfl rfl (any_of HT_.out (by kernel_rfl)) (fun _ _ _ h => h) (Or.inl ⟨by rfl, ?_⟩) ?_ ?_
                  rotate_left
                  ·intro w'
                   go_simp
                   with_reducible rfl
                  rotate_left
                  ·simp only [Act.put, zl1, zl2, zl3, i64_w, i32_w]
                   rfl
                  refine pure_ (i := 6) (N := some 110) (v := ?_) (a' := ?_) #[Y,Y,Y,Y,Y,Y,Y,Z,Z,Z,Z] rfl rfl (any_of HT_.out (by kernel_rfl)) (fun _ _ _ h => h) (Or.inl ⟨by rfl, ?_⟩) ?_ ?_
                  rotate_left
                  ·intro w'
                   go_simp
                   with_reducible rfl
                  rotate_left
                  ·simp only [Act.put, zl1, zl2, zl3, i64_w, i32_w]
                   rfl
                  refine take_ (i := 7) (N := some 111) (v := ?_) (a' := ?_) #[Y,Y,Y,Y,Y,Y,Y,Y,Z,Z,Z] rfl rfl (take_ofW HT_.out HW_.out (by kernel_rfl)) (fun _ _ _ h => h) (Or.inl ⟨by rfl, ?_⟩) hHeld ?_ ?_
                  rotate_left
                  ·rintro w' ⟨s0, s1, s2, s3, s4, s5, s6, s7, s8, s9⟩
                   go_simp
                   with_reducible rfl
                  rotate_left
                  ·simp only [Act.put, zl1, zl2, zl3, i64_w, i32_w]
                   rfl
                  refine one_ (i := 8) (N := some 112) #[Y,Y,Y,Y,Y,Y,Y,Y,Y,Z,Z] rfl rfl (one_of HT_.out (by kernel_rfl)) (by decide) (fun K hK => ?_)
                  refine goes_ Tryd.func42 (by kernel_rfl) rfl #[.slice A2 l2.length c2, .slice A178_0 ((rd_T71 ((rd_T66 s0_2 a1_4).f1) 0).f0).length c178_0] (by rfl) rfl rfl (by (try simp only [List.map_toArray, List.map_cons, List.map_nil]); first | done | rfl | (simp only [List.length_drop, List.length_take]; rfl)) ?_
                  with_reducible refine (slices_Equal_int_int.calls kj93 _ _ l2 _ _ ((rd_T71 ((rd_T66 s0_2 a1_4).f1) 0).f0) t179 _ ?side1 ?side2 ?side3 ?side4 A110.out).mono ?_
                  (case side1 => exact Kd.C_keep 0 HR2.out (by repeat (first | (with_reducible first | exact HK.out | apply KeepBut.set_ | apply keep_drewN | apply keep_drew | apply keep_alloc | refine keep_far ?_ GW138.out _ | refine keep_far ?_ GW177.out _) | exact HK.out)) hf2)
                  (case side2 => exact HC2.out)
                  (case side3 => repeat (first | exact HR178_0.out | (with_reducible refine Kd.C_alloc ?_ _) | (with_reducible refine Kd.C_drewN ?_ _) | (with_reducible refine Kd.C_drew ?_)))
                  (case side4 => exact HC178_0.out)
                  rintro e w' ⟨rfl, ⟨nd, rfl⟩⟩
                  refine ⟨_, rfl, ?_⟩
                  refine hK.out _ _ ⟨(blk_cell BK177.out 0).trans rfl, (blk_cell BK177.out 1).trans rfl, hHeld.2.2.1, hHeld.2.2.2.1, hHeld.2.2.2.2.1, hHeld.2.2.2.2.2.1, hHeld.2.2.2.2.2.2.1, hHeld.2.2.2.2.2.2.2.1, hHeld.2.2.2.2.2.2.2.2.1, hHeld.2.2.2.2.2.2.2.2.2⟩ (fun hHeld => ?_)
                  clear hK K
                  refine norm_ (a' := ?_) ?_ ?_
                  rotate_left
                  ·show Act.put _ (some 112) _ = _
                   simp only [Act.put, zl1, zl2, zl3, i64_w, i32_w]
                   rfl
                  refine pure_ (i := 9) (N := some 6) (v := ?_) (a' := ?_) #[Y,Y,Y,Y,Y,Y,Y,Y,Y,Y,Z] rfl rfl (any_of HT_.out (by kernel_rfl)) (fun _ _ _ h => h) (Or.inl ⟨by rfl, ?_⟩) ?_ ?_
                  rotate_left
                  ·intro w'
                   go_simp
                   with_reducible rfl
                  rotate_left
                  ·simp only [Act.put, zl1, zl2, zl3, i64_w, i32_w]
                   rfl
                  refine pure_ (i := 10) (N := some 7) (v := ?_) (a' := ?_) #[Y,Y,Y,Y,Y,Y,Y,Y,Y,Y,Y] rfl rfl (any_of HT_.out (by kernel_rfl)) (fun _ _ _ h => h) (Or.inl ⟨by rfl, ?_⟩) ?_ ?_
                  rotate_left
                  ·intro w'
                   go_simp
                   with_reducible rfl
                  rotate_left
                  ·simp only [Act.put, zl1, zl2, zl3, i64_w, i32_w]
                   rfl
                  refine done_ (done_of HT_.out (by kernel_rfl)) ?_
                  try go_wp2
                  go_ret2
                  exact ⟨by first | rfl | (simp [errW_none, errW_some] <;> rfl) | (simp [*, errW_none, errW_some] <;> rfl), by repeat (first | (with_reducible first | exact HI0.out | apply IsS26.alloc | apply IsS26.drewN | apply IsS26.drew | refine IsS26.far ?_ NB0_138.out _ | refine IsS26.far ?_ NB0_177.out _) | exact HI0.out), by repeat (first | (with_reducible first | exact HB.out | apply below_alloc | apply pw_below_drewN | apply below_drew1 | refine below_set ?_ (IsS26.ge HI0.out) | refine below_set ?_ GE138.out | refine below_set ?_ GE177.out) | exact HB.out), by repeat (first | (with_reducible first | exact HK.out | apply KeepBut.set_ | apply keep_drewN | apply keep_drew | apply keep_alloc | refine keep_far ?_ GW138.out _ | refine keep_far ?_ GW177.out _) | exact HK.out)⟩
                 ·rw [if_neg c109] at H
                  exact absurd H (by simp)
                ·rw [if_neg c108] at H
                 exact absurd H (by simp)
               ·rw [if_neg c107] at H
                exact absurd H (by simp)
           ·rw [if_neg c93] at H
            have c93b0 : (a1_0 == 23) = false := beq_eq_false_iff_ne.mpr c93
            have c93b1 : (a1_0 != 23) = true := bne_iff_ne.mpr c93
            by_cases c118 : a1_0 = 24
            ·rw [if_pos c118] at H
             have c118b0 : (a1_0 == 24) = true := beq_iff_eq.mpr c118
             have c118b1 : (a1_0 != 24) = false := bne_eq_false_iff_eq.mpr c118
             clear c118
             have HC119 := zm H
             clear H
             go_enter Tryd.func34, Tryd.ntmps34
             go_upto_region 28 with (first | ((with_reducible refine gate_dst (N := 4) rfl ?_); (try (refine gate_guard (by rfl) ?_; dsimp only)); refine box_event ?hg (N := 4) ?hd (cs := #[.int .i64 a1_0, .int .i64 a1_1, .int .i64 a1_2, .int .i64 a1_3, .int .i64 a1_4, .string a1_5, .slice A1_6 l1_6.length c1_6, .bool a1_7]) (t := 33) ?hr ?_; (case hd => rfl); (case hg => rfl); (case hr => first | (go_simp; done) | (go_simp; rfl)); intro gb138 hg w120 hbox hb; have n0_ := zm (IsS26.below (by repeat (first | (with_reducible first | exact HI0.out | apply IsS26.alloc | apply IsS26.drewN | apply IsS26.drew) | exact HI0.out)) hb); have n1_ := zm (KeepBut.trans (by repeat (first | (with_reducible first | exact HK.out | apply KeepBut.set_ | apply keep_drewN | apply keep_drew | apply keep_alloc) | exact HK.out)) (KeepBut.of_below hb g none) (.inl rfl)); have n2_ := zm (below_step (by repeat (first | (with_reducible first | exact HB.out | apply below_alloc | apply pw_below_drewN | apply below_drew1 | refine below_set ?_ (IsS26.ge HI0.out)) | exact HB.out)) hb); have n3_ := zm (hbox); have n4_ := zm ((by rw [hg]; exact (keep_size (w := w) (g := g) (row := none) (by repeat (first | (with_reducible first | exact HK.out | apply KeepBut.set_ | apply keep_drewN | apply keep_drew | apply keep_alloc) | exact HK.out))) : w.heap.size ≤ gb138)); have n5_ := zm ((Nat.le_trans HW0.out (by rw [hg]; exact (keep_size (w := w) (g := g) (row := none) (by repeat (first | (with_reducible first | exact HK.out | apply KeepBut.set_ | apply keep_drewN | apply keep_drew | apply keep_alloc) | exact HK.out))) : w.heap.size ≤ gb138) : w0.heap.size ≤ gb138)); have n6_ := zm ((by rw [hg]; exact Nat.ne_of_lt (IsS26.lt (show IsS26 w0 _ g s0_0 s0_1 s0_2 from by repeat (first | (with_reducible first | exact HI0.out | apply IsS26.alloc | apply IsS26.drewN | apply IsS26.drew) | exact HI0.out))) : g ≠ gb138)); have n7_ := zm ((by rw [hg]; exact Nat.ne_of_gt (IsS26.lt (show IsS26 w0 _ g s0_0 s0_1 s0_2 from by repeat (first | (with_reducible first | exact HI0.out | apply IsS26.alloc | apply IsS26.drewN | apply IsS26.drew) | exact HI0.out))) : gb138 ≠ g)); clear HI0; clear HK; clear HB; have HI0 := n0_; have HK := n1_; have HB := n2_; have BK138 := n3_; have GW138 := n4_; have GE138 := n5_; have NB0_138 := n6_; have NB138_0 := n7_; clear n0_ n1_ n2_ n3_ n4_ n5_ n6_ n7_; clear hb hbox hg; have hnb121 := NB138_0.out; have hnc121 := NB0_138.out; have hcz122_0 : w120.cell? ⟨gb138, 0, none⟩ = some (.int .i64 a1_0) := (blk_cell BK138.out 0).trans rfl; have hcz122_1 : w120.cell? ⟨gb138, 1, none⟩ = some (.int .i64 a1_1) := (blk_cell BK138.out 1).trans rfl; have hcz122_2 : w120.cell? ⟨gb138, 2, none⟩ = some (.int .i64 a1_2) := (blk_cell BK138.out 2).trans rfl; have hcz122_3 : w120.cell? ⟨gb138, 3, none⟩ = some (.int .i64 a1_3) := (blk_cell BK138.out 3).trans rfl; have hcz122_4 : w120.cell? ⟨gb138, 4, none⟩ = some (.int .i64 a1_4) := (blk_cell BK138.out 4).trans rfl; have hcz122_5 : w120.cell? ⟨gb138, 5, none⟩ = some (.string a1_5) := (blk_cell BK138.out 5).trans rfl; have hcz122_6 : w120.cell? ⟨gb138, 6, none⟩ = some (.slice A1_6 l1_6.length c1_6) := (blk_cell BK138.out 6).trans rfl; have hcz122_7 : w120.cell? ⟨gb138, 7, none⟩ = some (.bool a1_7) := (blk_cell BK138.out 7).trans rfl; have hfz122_0 := blk_frozen BK138.out 0; have hfz122_1 := blk_frozen BK138.out 1; have hfz122_2 := blk_frozen BK138.out 2; have hfz122_3 := blk_frozen BK138.out 3; have hfz122_4 := blk_frozen BK138.out 4; have hfz122_5 := blk_frozen BK138.out 5; have hfz122_6 := blk_frozen BK138.out 6; have hfz122_7 := blk_frozen BK138.out 7))
             (try simp only [Act.put, List.setIfInBounds_toArray, List.set_cons_zero, List.set_cons_succ])
             go_cut [129] (fun v129 wc => ∃ (kq : Nat) (x129_118 : Bool), v129 = .bool x129_118 ∧ Aside0 (kind_result.j1 kq l2 x129_118 s0_0 s0_1 s0_2 a1_0 a1_1 a1_2 a1_3 a1_4 a1_5 l1_6 a1_7 = some (r1, r2)) ∧ Aside0 (kq ≤ k) ∧ Aside0 (wc.heap[gb138]? = some (.cells #[.int .i64 a1_0, .int .i64 a1_1, .int .i64 a1_2, .int .i64 a1_3, .int .i64 a1_4, .string a1_5, (.slice A1_6 l1_6.length c1_6), .bool a1_7] 33 (0, 0))) ∧ Aside0 (IsS26 w0 wc g s0_0 s0_1 s0_2) ∧ Aside0 (KeepBut w wc g none) ∧ Aside0 (Below w0.heap.size w0 wc))
             case first =>
              have H := HC119.out
              clear HC119
              replace H := Option.bind_eq_some_iff.mp H
              obtain ⟨t180, A1230, H⟩ := H
              replace H : (if t180 = true then (if 0 < (l2.length : Int) then (kind_result.j1 k l2 ((rd l2 0) != 5) s0_0 s0_1 s0_2 a1_0 a1_1 a1_2 a1_3 a1_4 a1_5 l1_6 a1_7) else (none)) else (kind_result.j1 k l2 true s0_0 s0_1 s0_2 a1_0 a1_1 a1_2 a1_3 a1_4 a1_5 l1_6 a1_7)) = some (r1, r2) := H
              have A123 := zm A1230
              clear A1230
              by_cases c124 : t180 = true
              ·subst c124
               have H1 : (if 0 < (l2.length : Int) then (kind_result.j1 k l2 ((rd l2 0) != 5) s0_0 s0_1 s0_2 a1_0 a1_1 a1_2 a1_3 a1_4 a1_5 l1_6 a1_7) else (none)) = some (r1, r2) := by rw [if_pos rfl] at H; exact H
               clear H
               have H := H1
               clear H1
               by_cases c125 : 0 < (l2.length : Int)
               ·rw [if_pos c125] at H
                have c125b0 : decide (0 < (l2.length : Int)) = true := decide_eq_true c125
                have c125b1 : decide (0 < l2.length) = true := decide_eq_true (by omega)
                clear c125
                (first | rw [c125b0] | (simp only [i64_w, i32_w]; rw [c125b0]) | rw [c125b1] | skip)
                have H' := zm H
                clear H
                try go_wp2
                replace BK138 := zm (blk_drew BK138.out)
                replace HI0 := zm (IsS26.drew HI0.out)
                replace HK := zm (keep_drew HK.out)
                replace HB := zm (below_drew1 HB.out)
                obtain ⟨AS127_0, cS127_0, AS127_1, cS127_1, AS127_2, cS127_2, HG127, hg127, HS127_0, HS127_1, HS127_2⟩ := HI0.out
                have hx127_0 := cellS26_0 HG127
                have hx127_1 := cellS26_1 HG127
                have hx127_2 := cellS26_2 HG127
                clear HG127 hg127
                have p181 : 0 ≤ (0 : Int) := (by omega)
                have q181 : 0 < (l2.length : Int) := of_decide_eq_true (by first | (with_reducible assumption) | assumption)
                obtain ⟨ad181, e181, hx181_0⟩ := Kd.at_int HR2.out 0 p181 q181
                have hw181_0 := hx181_0
                (try rw [show ((0 : Int)).toNat = 0 from rfl] at hw181_0)
                (try rw [show 0 * 1 = 0 from rfl] at hw181_0)
                (try rw [Addr.add_zero'] at hw181_0)
                cases e181
                have hne181_0 := (show (ad181 : Addr).block ≠ g from by first | (rw [add_block]; exact hf2 ad181 rfl (by omega)) | (show (Addr.add _ _).block ≠ _; rw [add_block]; exact hf2 ad181 rfl (by omega)) | exact hf2 ad181 rfl (by omega))
                have qi181 : (0 < l2.length) = True := eq_true (by omega)
                (try rw [show ((0 : Int)).toNat = 0 from rfl] at hx181_0)
                (try rw [Addr.add_zero'] at hx181_0)
                replace hx181_0 := keep_cell HK.out hx181_0 (by first | (rw [add_block]; exact hf2 _ rfl (by omega)) | exact hf2 _ rfl (by omega) | exact hf2 ad181 rfl (by omega))
                replace p181 := eq_true p181
                replace q181 := eq_true q181
                refine start_ (n := 15) (S := fun w' => w'.cell? ⟨gb138, 0, none⟩ = some (.int .i64 a1_0) ∧ w'.cell? ⟨gb138, 1, none⟩ = some (.int .i64 a1_1) ∧ w'.cell? ⟨gb138, 2, none⟩ = some (.int .i64 a1_2) ∧ w'.cell? ⟨gb138, 3, none⟩ = some (.int .i64 a1_3) ∧ w'.cell? ⟨gb138, 4, none⟩ = some (.int .i64 a1_4) ∧ w'.cell? ⟨gb138, 5, none⟩ = some (.string a1_5) ∧ w'.cell? ⟨gb138, 6, none⟩ = some (.slice A1_6 l1_6.length c1_6) ∧ w'.cell? ⟨gb138, 7, none⟩ = some (.bool a1_7) ∧ w'.cell? ⟨g, 0, none⟩ = some (.slice AS127_0 s0_0.length cS127_0) ∧ w'.cell? ⟨g, 1, none⟩ = some (.slice AS127_1 s0_1.length cS127_1) ∧ w'.cell? ⟨g, 2, none⟩ = some (.slice AS127_2 s0_2.length cS127_2) ∧ w'.cell? ad181 = some (.int .i64 (rd l2 0))) (ds := []) #[Z,Z,Z,Z,Z,Z,Z,Z,Z,Z,Z,Z,Z,Z,Z] (by kernel_rfl) rfl rfl ⟨(blk_cell BK138.out 0).trans rfl, (blk_cell BK138.out 1).trans rfl, (blk_cell BK138.out 2).trans rfl, (blk_cell BK138.out 3).trans rfl, (blk_cell BK138.out 4).trans rfl, (blk_cell BK138.out 5).trans rfl, (blk_cell BK138.out 6).trans rfl, (blk_cell BK138.out 7).trans rfl, hx127_0, hx127_1, hx127_2, (keep_cell HK.out hw181_0 hne181_0)⟩ (fun hHeld => ?_); refine with_tabW kind_result.tab28 kind_result.bits28 (fun HT_ HW_ => ?_)
                generalize w120.drew = w126 at BK138 HI0 HK HB hx127_0 hx127_1 hx127_2 hx181_0 hHeld ⊢
                refine pure_ (i := 0) (N := some 115) (v := ?_) (a' := ?_) #[Y,Z,Z,Z,Z,Z,Z,Z,Z,Z,Z,Z,Z,Z,Z] rfl rfl (any_of HT_.out (by kernel_rfl)) (fun _ _ _ h => h) (Or.inl ⟨by rfl, ?_⟩) ?_ ?_
                rotate_left
                ·intro w'
                 go_simp
                 with_reducible rfl
                rotate_left
                ·simp only [Act.put, zl1, zl2, zl3, i64_w, i32_w]
                 rfl
                refine pure_ (i := 2) (N := some 117) (v := ?_) (a' := ?_) #[Y,Z,Y,Z,Z,Z,Z,Z,Z,Z,Z,Z,Z,Z,Z] rfl rfl (any_of HT_.out (by kernel_rfl)) (fun _ _ _ h => h) (Or.inl ⟨by rfl, ?_⟩) ?_ ?_
                rotate_left
                ·intro w'
                 go_simp
                 with_reducible rfl
                rotate_left
                ·simp only [Act.put, zl1, zl2, zl3, i64_w, i32_w]
                 rfl
                refine pure_ (i := 3) (N := some 118) (v := ?_) (a' := ?_) #[Y,Z,Y,Y,Z,Z,Z,Z,Z,Z,Z,Z,Z,Z,Z] rfl rfl (any_of HT_.out (by kernel_rfl)) (fun _ _ _ h => h) (Or.inl ⟨by rfl, ?_⟩) ?_ ?_
                rotate_left
                ·intro w'
                 go_simp
                 with_reducible rfl
                rotate_left
                ·simp only [Act.put, zl1, zl2, zl3, i64_w, i32_w]
                 rfl
                refine pure_ (i := 4) (N := some 119) (v := ?_) (a' := ?_) #[Y,Z,Y,Y,Y,Z,Z,Z,Z,Z,Z,Z,Z,Z,Z] rfl rfl (any_of HT_.out (by kernel_rfl)) (fun _ _ _ h => h) (Or.inl ⟨by rfl, ?_⟩) ?_ ?_
                rotate_left
                ·intro w'
                 go_simp
                 with_reducible rfl
                rotate_left
                ·simp only [Act.put, zl1, zl2, zl3, i64_w, i32_w]
                 rfl
                refine take_ (i := 1) (N := some 116) (v := ?_) (a' := ?_) #[Y,Y,Y,Y,Y,Z,Z,Z,Z,Z,Z,Z,Z,Z,Z] rfl rfl (take_ofW HT_.out HW_.out (by kernel_rfl)) (fun _ _ _ h => h) (Or.inl ⟨by rfl, ?_⟩) hHeld ?_ ?_
                rotate_left
                ·rintro w' ⟨s0, s1, s2, s3, s4, s5, s6, s7, s8, s9, s10, s11⟩
                 go_simp
                 with_reducible rfl
                rotate_left
                ·simp only [Act.put, zl1, zl2, zl3, i64_w, i32_w]
                 rfl
                refine take_ (i := 5) (N := some 120) (v := ?_) (a' := ?_) #[Y,Y,Y,Y,Y,Y,Z,Z,Z,Z,Z,Z,Z,Z,Z] rfl rfl (take_ofW HT_.out HW_.out (by kernel_rfl)) (fun _ _ _ h => h) (Or.inl ⟨by rfl, ?_⟩) hHeld ?_ ?_
                rotate_left
                ·rintro w' ⟨s0, s1, s2, s3, s4, s5, s6, s7, s8, s9, s10, s11⟩
                 go_simp
                 with_reducible rfl
                rotate_left
                ·simp only [Act.put, zl1, zl2, zl3, i64_w, i32_w]
                 rfl
                refine pure_ (i := 6) (N := some 121) (v := ?_) (a' := ?_) #[Y,Y,Y,Y,Y,Y,Y,Z,Z,Z,Z,Z,Z,Z,Z] rfl rfl (any_of HT_.out (by kernel_rfl)) (fun _ _ _ h => h) (Or.inl ⟨by rfl, ?_⟩) ?_ ?_
                rotate_left
                ·intro w'
                 go_simp
                 with_reducible rfl
                rotate_left
                ·simp only [Act.put, zl1, zl2, zl3, i64_w, i32_w]
                 rfl
                refine one_ (i := 7) (N := some 122) #[Y,Y,Y,Y,Y,Y,Y,Y,Z,Z,Z,Z,Z,Z,Z] rfl rfl (one_of HT_.out (by kernel_rfl)) (by decide) (fun K hK => ?_)
                refine goes_ Tryd.func39 (by kernel_rfl) rfl #[.int .i64 a1_4, .int .i64 (s0_0.length : Int)] (by rfl) rfl rfl (by (try simp only [List.map_toArray, List.map_cons, List.map_nil]); first | done | rfl | (simp only [List.length_drop, List.length_take]; rfl)) ?_
                with_reducible refine (kind_within.calls a1_4 (s0_0.length : Int) true _ A123.out).mono ?_
                rintro e w' ⟨rfl, ⟨nd, rfl⟩⟩
                refine ⟨_, rfl, ?_⟩
                refine hK.out _ _ ⟨(blk_cell BK138.out 0).trans rfl, (blk_cell BK138.out 1).trans rfl, (blk_cell BK138.out 2).trans rfl, (blk_cell BK138.out 3).trans rfl, (blk_cell BK138.out 4).trans rfl, (blk_cell BK138.out 5).trans rfl, (blk_cell BK138.out 6).trans rfl, (blk_cell BK138.out 7).trans rfl, hHeld.2.2.2.2.2.2.2.2.1, hHeld.2.2.2.2.2.2.2.2.2.1, hHeld.2.2.2.2.2.2.2.2.2.2.1, (keep_cell HK.out hw181_0 hne181_0)⟩ (fun hHeld => ?_)
                clear hK K
                refine norm_ (a' := ?_) ?_ ?_
                rotate_left
                ·show Act.put _ (some 122) _ = _
                 simp only [Act.put, zl1, zl2, zl3, i64_w, i32_w]
                 rfl
                refine pure_ (i := 8) (N := some 123) (v := ?_) (a' := ?_) #[Y,Y,Y,Y,Y,Y,Y,Y,Y,Z,Z,Z,Z,Z,Z] rfl rfl (any_of HT_.out (by kernel_rfl)) (fun _ _ _ h => h) (Or.inl ⟨by rfl, ?_⟩) ?_ ?_
                rotate_left
                ·intro w'
                 go_simp
                 with_reducible rfl
                rotate_left
                ·simp only [Act.put, zl1, zl2, zl3, i64_w, i32_w]
                 rfl
                refine pure_ (i := 9) (N := some 124) (v := ?_) (a' := ?_) #[Y,Y,Y,Y,Y,Y,Y,Y,Y,Y,Z,Z,Z,Z,Z] rfl rfl (any_of HT_.out (by kernel_rfl)) (fun _ _ _ h => h) (Or.inl ⟨by rfl, ?_⟩) ?_ ?_
                rotate_left
                ·intro w'
                 go_simp
                 with_reducible rfl
                rotate_left
                ·simp only [Act.put, zl1, zl2, zl3, i64_w, i32_w]
                 rfl
                refine pure_ (i := 10) (N := some 125) (v := ?_) (a' := ?_) #[Y,Y,Y,Y,Y,Y,Y,Y,Y,Y,Y,Z,Z,Z,Z] rfl rfl (any_of HT_.out (by kernel_rfl)) (fun _ _ _ h => h) (Or.inl ⟨by rfl, ?_⟩) ?_ ?_
                rotate_left
                ·intro w'
                 go_simp
                 with_reducible rfl
                rotate_left
                ·simp only [Act.put, zl1, zl2, zl3, i64_w, i32_w]
                 rfl
                refine pure_ (i := 11) (N := some 126) (v := ?_) (a' := ?_) #[Y,Y,Y,Y,Y,Y,Y,Y,Y,Y,Y,Y,Z,Z,Z] rfl rfl (any_of HT_.out (by kernel_rfl)) (fun _ _ _ h => h) (Or.inl ⟨by rfl, ?_⟩) ?_ ?_
                rotate_left
                ·intro w'
                 go_simp
                 with_reducible rfl
                rotate_left
                ·simp only [Act.put, zl1, zl2, zl3, i64_w, i32_w]
                 rfl
                refine take_ (i := 12) (N := some 127) (v := ?_) (a' := ?_) #[Y,Y,Y,Y,Y,Y,Y,Y,Y,Y,Y,Y,Y,Z,Z] rfl rfl (take_ofW HT_.out HW_.out (by kernel_rfl)) (fun _ _ _ h => h) (Or.inl ⟨by rfl, ?_⟩) hHeld ?_ ?_
                rotate_left
                ·rintro w' ⟨s0, s1, s2, s3, s4, s5, s6, s7, s8, s9, s10, s11⟩
                 go_simp
                 with_reducible rfl
                rotate_left
                ·simp only [Act.put, zl1, zl2, zl3, i64_w, i32_w]
                 rfl
                refine pure_ (i := 13) (N := some 128) (v := ?_) (a' := ?_) #[Y,Y,Y,Y,Y,Y,Y,Y,Y,Y,Y,Y,Y,Y,Z] rfl rfl (any_of HT_.out (by kernel_rfl)) (fun _ _ _ h => h) (Or.inl ⟨by rfl, ?_⟩) ?_ ?_
                rotate_left
                ·intro w'
                 go_simp
                 with_reducible rfl
                rotate_left
                ·simp only [Act.put, zl1, zl2, zl3, i64_w, i32_w]
                 rfl
                refine pure_ (i := 14) (N := some 129) (v := ?_) (a' := ?_) #[Y,Y,Y,Y,Y,Y,Y,Y,Y,Y,Y,Y,Y,Y,Y] rfl rfl (any_of HT_.out (by kernel_rfl)) (fun _ _ _ h => h) (Or.inl ⟨by rfl, ?_⟩) ?_ ?_
                rotate_left
                ·intro w'
                 go_simp
                 with_reducible rfl
                rotate_left
                ·simp only [Act.put, zl1, zl2, zl3, i64_w, i32_w]
                 rfl
                refine done_ (done_of HT_.out (by kernel_rfl)) ?_
                try go_wp2
                go_meet
                case rel => exact ⟨_, (((rd l2 0) != 5)), (by first | rfl | (simp; done) | (simp [*]; done) | (simp [*, wrap64]; done) | (simp [*]; unfold wrap64; omega)), H', ⟨by first | omega | exact Nat.le_refl _⟩, ⟨by (with_reducible repeat (first | refine blk_drewN ?_ _ | refine blk_drew ?_ | refine blk_alloc ?_ _)); exact BK138.out⟩, ⟨by repeat (first | (with_reducible first | exact HI0.out | apply IsS26.alloc | apply IsS26.drewN | apply IsS26.drew | refine IsS26.far ?_ NB0_138.out _) | exact HI0.out)⟩, ⟨by repeat (first | (with_reducible first | exact HK.out | apply KeepBut.set_ | apply keep_drewN | apply keep_drew | apply keep_alloc | refine keep_far ?_ GW138.out _) | exact HK.out)⟩, ⟨by repeat (first | (with_reducible first | exact HB.out | apply below_alloc | apply pw_below_drewN | apply below_drew1 | refine below_set ?_ (IsS26.ge HI0.out) | refine below_set ?_ GE138.out) | exact HB.out)⟩⟩
               ·rw [if_neg c125] at H
                exact absurd H (by simp)
              ·replace c124 := Bool.eq_false_iff.mpr c124
               subst c124
               have H1 : (kind_result.j1 k l2 true s0_0 s0_1 s0_2 a1_0 a1_1 a1_2 a1_3 a1_4 a1_5 l1_6 a1_7) = some (r1, r2) := by rw [if_neg (show ¬ (false = true) by decide)] at H; exact H
               clear H
               have H := H1
               clear H1
               have H' := zm H
               clear H
               try go_wp2
               replace BK138 := zm (blk_drew BK138.out)
               replace HI0 := zm (IsS26.drew HI0.out)
               replace HK := zm (keep_drew HK.out)
               replace HB := zm (below_drew1 HB.out)
               obtain ⟨AS129_0, cS129_0, AS129_1, cS129_1, AS129_2, cS129_2, HG129, hg129, HS129_0, HS129_1, HS129_2⟩ := HI0.out
               have hx129_0 := cellS26_0 HG129
               have hx129_1 := cellS26_1 HG129
               have hx129_2 := cellS26_2 HG129
               clear HG129 hg129
               refine start_ (n := 15) (S := fun w' => w'.cell? ⟨gb138, 0, none⟩ = some (.int .i64 a1_0) ∧ w'.cell? ⟨gb138, 1, none⟩ = some (.int .i64 a1_1) ∧ w'.cell? ⟨gb138, 2, none⟩ = some (.int .i64 a1_2) ∧ w'.cell? ⟨gb138, 3, none⟩ = some (.int .i64 a1_3) ∧ w'.cell? ⟨gb138, 4, none⟩ = some (.int .i64 a1_4) ∧ w'.cell? ⟨gb138, 5, none⟩ = some (.string a1_5) ∧ w'.cell? ⟨gb138, 6, none⟩ = some (.slice A1_6 l1_6.length c1_6) ∧ w'.cell? ⟨gb138, 7, none⟩ = some (.bool a1_7) ∧ w'.cell? ⟨g, 0, none⟩ = some (.slice AS129_0 s0_0.length cS129_0) ∧ w'.cell? ⟨g, 1, none⟩ = some (.slice AS129_1 s0_1.length cS129_1) ∧ w'.cell? ⟨g, 2, none⟩ = some (.slice AS129_2 s0_2.length cS129_2)) (ds := []) #[Z,Z,Z,Z,Z,Z,Z,Z,Z,Z,Z,Z,Z,Z,Z] (by kernel_rfl) rfl rfl ⟨(blk_cell BK138.out 0).trans rfl, (blk_cell BK138.out 1).trans rfl, (blk_cell BK138.out 2).trans rfl, (blk_cell BK138.out 3).trans rfl, (blk_cell BK138.out 4).trans rfl, (blk_cell BK138.out 5).trans rfl, (blk_cell BK138.out 6).trans rfl, (blk_cell BK138.out 7).trans rfl, hx129_0, hx129_1, hx129_2⟩ (fun hHeld => ?_); refine with_tabW kind_result.tab28 kind_result.bits28 (fun HT_ HW_ => ?_)
               generalize w120.drew = w128 at BK138 HI0 HK HB hx129_0 hx129_1 hx129_2 hHeld ⊢
               refine pure_ (i := 0) (N := some 115) (v := ?_) (a' := ?_) #[Y,Z,Z,Z,Z,Z,Z,Z,Z,Z,Z,Z,Z,Z,Z] rfl rfl (any_of HT_.out (by kernel_rfl)) (fun _ _ _ h => h) (Or.inl ⟨by rfl, ?_⟩) ?_ ?_
               rotate_left
               ·intro w'
                go_simp
                with_reducible rfl
               rotate_left
               ·simp only [Act.put, zl1, zl2, zl3, i64_w, i32_w]
                rfl
               refine pure_ (i := 2) (N := some 117) (v := ?_) (a' := ?_) #[Y,Z,Y,Z,Z,Z,Z,Z,Z,Z,Z,Z,Z,Z,Z] rfl rfl (any_of HT_.out (by kernel_rfl)) (fun _ _ _ h => h) (Or.inl ⟨by rfl, ?_⟩) ?_ ?_
               rotate_left
               ·intro w'
                go_simp
                with_reducible rfl
               rotate_left
               ·simp only [Act.put, zl1, zl2, zl3, i64_w, i32_w]
                rfl
               refine pure_ (i := 3) (N := some 118) (v := ?_) (a' := ?_) #[Y,Z,Y,Y,Z,Z,Z,Z,Z,Z,Z,Z,Z,Z,Z] rfl rfl (any_of HT_.out (by kernel_rfl)) (fun _ _ _ h => h) (Or.inl ⟨by rfl, ?_⟩) ?_ ?_
               rotate_left
               ·intro w'
                go_simp
                with_reducible rfl
               rotate_left
               ·simp only [Act.put, zl1, zl2, zl3, i64_w, i32_w]
                rfl
               refine pure_ (i := 4) (N := some 119) (v := ?_) (a' := ?_) #[Y,Z,Y,Y,Y,Z,Z,Z,Z,Z,Z,Z,Z,Z,Z] rfl rfl (any_of HT_.out (by kernel_rfl)) (fun _ _ _ h => h) (Or.inl ⟨by rfl, ?_⟩) ?_ ?_
               rotate_left
               ·intro w'
                go_simp
                with_reducible rfl
               rotate_left
               ·simp only [Act.put, zl1, zl2, zl3, i64_w, i32_w]
                rfl
               refine take_ (i := 1) (N := some 116) (v := ?_) (a' := ?_) #[Y,Y,Y,Y,Y,Z,Z,Z,Z,Z,Z,Z,Z,Z,Z] rfl rfl (take_ofW HT_.out HW_.out (by kernel_rfl)) (fun _ _ _ h => h) (Or.inl ⟨by rfl, ?_⟩) hHeld ?_ ?_
               rotate_left
               ·rintro w' ⟨s0, s1, s2, s3, s4, s5, s6, s7, s8, s9, s10⟩
                go_simp
                with_reducible rfl
               rotate_left
               ·simp only [Act.put, zl1, zl2, zl3, i64_w, i32_w]
                rfl
               refine take_ (i := 5) (N := some 120) (v := ?_) (a' := ?_) #[Y,Y,Y,Y,Y,Y,Z,Z,Z,Z,Z,Z,Z,Z,Z] rfl rfl (take_ofW HT_.out HW_.out (by kernel_rfl)) (fun _ _ _ h => h) (Or.inl ⟨by rfl, ?_⟩) hHeld ?_ ?_
               rotate_left
               ·rintro w' ⟨s0, s1, s2, s3, s4, s5, s6, s7, s8, s9, s10⟩
                go_simp
                with_reducible rfl
               rotate_left
               ·simp only [Act.put, zl1, zl2, zl3, i64_w, i32_w]
                rfl
               refine pure_ (i := 6) (N := some 121) (v := ?_) (a' := ?_) #[Y,Y,Y,Y,Y,Y,Y,Z,Z,Z,Z,Z,Z,Z,Z] rfl rfl (any_of HT_.out (by kernel_rfl)) (fun _ _ _ h => h) (Or.inl ⟨by rfl, ?_⟩) ?_ ?_
               rotate_left
               ·intro w'
                go_simp
                with_reducible rfl
               rotate_left
               ·simp only [Act.put, zl1, zl2, zl3, i64_w, i32_w]
                rfl
               refine one_ (i := 7) (N := some 122) #[Y,Y,Y,Y,Y,Y,Y,Y,Z,Z,Z,Z,Z,Z,Z] rfl rfl (one_of HT_.out (by kernel_rfl)) (by decide) (fun K hK => ?_)
               refine goes_ Tryd.func39 (by kernel_rfl) rfl #[.int .i64 a1_4, .int .i64 (s0_0.length : Int)] (by rfl) rfl rfl (by (try simp only [List.map_toArray, List.map_cons, List.map_nil]); first | done | rfl | (simp only [List.length_drop, List.length_take]; rfl)) ?_
               with_reducible refine (kind_within.calls a1_4 (s0_0.length : Int) false _ A123.out).mono ?_
               rintro e w' ⟨rfl, ⟨nd, rfl⟩⟩
               refine ⟨_, rfl, ?_⟩
               refine hK.out _ _ ⟨(blk_cell BK138.out 0).trans rfl, (blk_cell BK138.out 1).trans rfl, (blk_cell BK138.out 2).trans rfl, (blk_cell BK138.out 3).trans rfl, (blk_cell BK138.out 4).trans rfl, (blk_cell BK138.out 5).trans rfl, (blk_cell BK138.out 6).trans rfl, (blk_cell BK138.out 7).trans rfl, hHeld.2.2.2.2.2.2.2.2.1, hHeld.2.2.2.2.2.2.2.2.2.1, hHeld.2.2.2.2.2.2.2.2.2.2⟩ (fun hHeld => ?_)
               clear hK K
               refine norm_ (a' := ?_) ?_ ?_
               rotate_left
               ·show Act.put _ (some 122) _ = _
                simp only [Act.put, zl1, zl2, zl3, i64_w, i32_w]
                rfl
               refine pure_ (i := 8) (N := some 123) (v := ?_) (a' := ?_) #[Y,Y,Y,Y,Y,Y,Y,Y,Y,Z,Z,Z,Z,Z,Z] rfl rfl (any_of HT_.out (by kernel_rfl)) (fun _ _ _ h => h) (Or.inl ⟨by rfl, ?_⟩) ?_ ?_
               rotate_left
               ·intro w'
                go_simp
                with_reducible rfl
               rotate_left
               ·simp only [Act.put, zl1, zl2, zl3, i64_w, i32_w]
                rfl
               refine pure_ (i := 9) (N := some 124) (v := ?_) (a' := ?_) #[Y,Y,Y,Y,Y,Y,Y,Y,Y,Y,Z,Z,Z,Z,Z] rfl rfl (any_of HT_.out (by kernel_rfl)) (fun _ _ _ h => h) (Or.inl ⟨by rfl, ?_⟩) ?_ ?_
               rotate_left
               ·intro w'
                go_simp
                with_reducible rfl
               rotate_left
               ·simp only [Act.put, zl1, zl2, zl3, i64_w, i32_w]
                rfl
               refine pure_ (i := 10) (N := some 125) (v := undef) (a' := ?_) #[Y,Y,Y,Y,Y,Y,Y,Y,Y,Y,Y,Z,Z,Z,Z] rfl rfl (any_of HT_.out (by kernel_rfl)) (fun _ _ _ h => h) (Or.inr ⟨by rfl, rfl⟩) ?_ ?_
               rotate_left
               ·simp only [Act.put, zl1, zl2, zl3, i64_w, i32_w]
                rfl
               refine pure_ (i := 11) (N := some 126) (v := undef) (a' := ?_) #[Y,Y,Y,Y,Y,Y,Y,Y,Y,Y,Y,Y,Z,Z,Z] rfl rfl (any_of HT_.out (by kernel_rfl)) (fun _ _ _ h => h) (Or.inr ⟨by rfl, rfl⟩) ?_ ?_
               rotate_left
               ·simp only [Act.put, zl1, zl2, zl3, i64_w, i32_w]
                rfl
               refine pure_ (i := 12) (N := some 127) (v := undef) (a' := ?_) #[Y,Y,Y,Y,Y,Y,Y,Y,Y,Y,Y,Y,Y,Z,Z] rfl rfl (any_of HT_.out (by kernel_rfl)) (fun _ _ _ h => h) (Or.inr ⟨by rfl, rfl⟩) ?_ ?_
               rotate_left
               ·simp only [Act.put, zl1, zl2, zl3, i64_w, i32_w]
                rfl
               refine pure_ (i := 13) (N := some 128) (v := undef) (a' := ?_) #[Y,Y,Y,Y,Y,Y,Y,Y,Y,Y,Y,Y,Y,Y,Z] rfl rfl (any_of HT_.out (by kernel_rfl)) (fun _ _ _ h => h) (Or.inr ⟨by rfl, rfl⟩) ?_ ?_
               rotate_left
               ·simp only [Act.put, zl1, zl2, zl3, i64_w, i32_w]
                rfl
               refine pure_ (i := 14) (N := some 129) (v := ?_) (a' := ?_) #[Y,Y,Y,Y,Y,Y,Y,Y,Y,Y,Y,Y,Y,Y,Y] rfl rfl (any_of HT_.out (by kernel_rfl)) (fun _ _ _ h => h) (Or.inl ⟨by rfl, ?_⟩) ?_ ?_
               rotate_left
               ·intro w'
                go_simp
                with_reducible rfl
               rotate_left
               ·simp only [Act.put, zl1, zl2, zl3, i64_w, i32_w]
                rfl
               refine done_ (done_of HT_.out (by kernel_rfl)) ?_
               try go_wp2
               go_meet
               case rel => exact ⟨_, (true), (by first | rfl | (simp; done) | (simp [*]; done) | (simp [*, wrap64]; done) | (simp [*]; unfold wrap64; omega)), H', ⟨by first | omega | exact Nat.le_refl _⟩, ⟨by (with_reducible repeat (first | refine blk_drewN ?_ _ | refine blk_drew ?_ | refine blk_alloc ?_ _)); exact BK138.out⟩, ⟨by repeat (first | (with_reducible first | exact HI0.out | apply IsS26.alloc | apply IsS26.drewN | apply IsS26.drew | refine IsS26.far ?_ NB0_138.out _) | exact HI0.out)⟩, ⟨by repeat (first | (with_reducible first | exact HK.out | apply KeepBut.set_ | apply keep_drewN | apply keep_drew | apply keep_alloc | refine keep_far ?_ GW138.out _) | exact HK.out)⟩, ⟨by repeat (first | (with_reducible first | exact HB.out | apply below_alloc | apply pw_below_drewN | apply below_drew1 | refine below_set ?_ (IsS26.ge HI0.out) | refine below_set ?_ GE138.out) | exact HB.out)⟩⟩
             case rest =>
              clear HC119
              try clear c1
              try clear p1
              try clear q1
              try clear hx1
              try clear qi1
              try clear c2
              try clear p2
              try clear c3
              try clear c4
              try clear c9
              try clear c10
              try clear c11
              try clear c12
              try clear hx12
              try clear c17
              try clear p17
              try clear q17
              try clear hx17
              try clear qi17
              try clear p18
              try clear q18
              try clear hx18
              try clear qi18
              try clear c34
              try clear c39
              try clear c42
              try clear c93
              try clear c93b0
              try clear c93b1
              try clear c107
              try clear c108
              try clear c109
              try clear c118
              try clear c118b0
              try clear c118b1
              try clear c121
              try clear c124
              try clear c125
              try clear c125b0
              try clear c125b1
              try clear hx127
              try clear hx129
              try clear hcz122_0
              try clear hcz122_1
              try clear hcz122_2
              try clear hcz122_3
              try clear hcz122_4
              try clear hcz122_5
              try clear hcz122_6
              try clear hcz122_7
              try clear hfz122_0
              try clear hfz122_1
              try clear hfz122_2
              try clear hfz122_3
              try clear hfz122_4
              try clear hfz122_5
              try clear hfz122_6
              try clear hfz122_7
              try clear hx127_0
              try clear hx127_1
              try clear hx127_2
              try clear hx129_0
              try clear hx129_1
              try clear hx129_2
              try clear hx178_0
              try clear hx178_1
              try clear hx178_2
              try clear hx178_3
              try clear hx178_4
              try clear hx178_5
              try clear hx178_6
              try clear hx178_7
              try clear hx181_0
              try clear p178
              try clear p181
              try clear q178
              try clear q181
              obtain ⟨kq, x129_118, rfl, HA, HJ118, BK138, HI0, HK, HB⟩ := hcut
              cases kq with
              | zero => exact absurd HA.out (by simp [kind_result.j1])
              | succ kj118 =>
               have H := HA.out
               clear HA
               simp only [kind_result.j1] at H
               by_cases c130 : x129_118 = true
               ·subst c130
                have H1 : (some (0, false)) = some (r1, r2) := by rw [if_pos rfl] at H; exact H
                clear H
                have H := H1
                clear H1
                simp only [Option.some.injEq, Prod.mk.injEq] at H
                obtain ⟨rfl, rfl⟩ := H
                go_wp2
                go_ret2
                exact ⟨by first | rfl | (simp [errW_none, errW_some] <;> rfl) | (simp [*, errW_none, errW_some] <;> rfl), by repeat (first | (with_reducible first | exact HI0.out | apply IsS26.alloc | apply IsS26.drewN | apply IsS26.drew | refine IsS26.far ?_ NB0_138.out _) | exact HI0.out), by repeat (first | (with_reducible first | exact HB.out | apply below_alloc | apply pw_below_drewN | apply below_drew1 | refine below_set ?_ (IsS26.ge HI0.out) | refine below_set ?_ GE138.out) | exact HB.out), by repeat (first | (with_reducible first | exact HK.out | apply KeepBut.set_ | apply keep_drewN | apply keep_drew | apply keep_alloc | refine keep_far ?_ GW138.out _) | exact HK.out)⟩
               ·replace c130 := Bool.eq_false_iff.mpr c130
                subst c130
                have H1 : (if 0 ≤ a1_4 then (if a1_4 < (s0_0.length : Int) then (if 1 ≤ (l2.length : Int) then ((slices_Equal_int_int.f kj118 (l2.drop 1) ((rd_T73 s0_0 a1_4).f0)).bind fun t185 => (some ((rd_T73 s0_0 a1_4).f1, t185))) else (none)) else (none)) else (none)) = some (r1, r2) := by rw [if_neg (show ¬ (false = true) by decide)] at H; exact H
                clear H
                have H := H1
                clear H1
                by_cases c131 : 0 ≤ a1_4
                ·rw [if_pos c131] at H
                 have c131b0 : decide (0 ≤ a1_4) = true := decide_eq_true c131
                 clear c131
                 by_cases c132 : a1_4 < (s0_0.length : Int)
                 ·rw [if_pos c132] at H
                  have c132b0 : decide (a1_4 < (s0_0.length : Int)) = true := decide_eq_true c132
                  clear c132
                  by_cases c133 : 1 ≤ (l2.length : Int)
                  ·rw [if_pos c133] at H
                   have c133b0 := eq_true c133
                   have c133b1 : decide (1 ≤ (l2.length : Int)) = true := decide_eq_true c133
                   clear c133
                   replace H := Option.bind_eq_some_iff.mp H
                   obtain ⟨t185, A1340, H⟩ := H
                   replace H : (some ((rd_T73 s0_0 a1_4).f1, t185)) = some (r1, r2) := H
                   have A134 := zm A1340
                   clear A1340
                   simp only [Option.some.injEq, Prod.mk.injEq] at H
                   obtain ⟨rfl, rfl⟩ := H
                   try go_wp2
                   replace BK138 := zm (blk_drew BK138.out)
                   replace HI0 := zm (IsS26.drew HI0.out)
                   replace HK := zm (keep_drew HK.out)
                   replace HB := zm (below_drew1 HB.out)
                   obtain ⟨AS136_0, cS136_0, AS136_1, cS136_1, AS136_2, cS136_2, HG136, hg136, HS136_0, HS136_1, HS136_2⟩ := HI0.out
                   have hx136_0 := cellS26_0 HG136
                   have hx136_1 := cellS26_1 HG136
                   have hx136_2 := cellS26_2 HG136
                   clear HG136 hg136
                   have p182 : 0 ≤ (a1_4 : Int) := of_decide_eq_true (by first | (with_reducible assumption) | assumption)
                   have q182 : a1_4 < (s0_0.length : Int) := of_decide_eq_true (by first | (with_reducible assumption) | assumption)
                   obtain ⟨ad182, A182_0, c182_0, e182, hx182_0, hx182_1, hl182_0, hi182_0⟩ := at_T73 HS136_0 a1_4 p182 q182
                   have hw182_1 := hx182_1
                   have hw182_0 := hx182_0
                   cases e182
                   replace hx182_0 := pw_cell_below HB.out hx182_0
                   replace hx182_1 := pw_cell_below HB.out hx182_1
                   have HZ182_0 := zm hi182_0
                   have HC182_0 := zm hl182_0
                   clear hi182_0 hl182_0
                   have HR182_0 := zm (Kd.C_below HZ182_0.out HB.out)
                   replace p182 := eq_true p182
                   replace q182 := eq_true q182
                   obtain ⟨i0137, hi0137, _, hsz137, _⟩ := info_parts info3
                   obtain ⟨A137, hcut137, hA137, hC137⟩ := print_drop_of (P := Tryd.prog) (Value.int .i64) 0 31 3 .i64 Tryd.underlying31 hi0137 hsz137 A2 c2 l2 1 (by omega) (of_decide_eq_true (by first | (with_reducible assumption) | assumption)) HC2.out
                   have HR183 := zm (Kd.C_of_reads (h1 := fun _ => rfl) (hA137 _ (Kd.reads_of_C HR2.out)))
                   have HC183 := zm hC137
                   have hf183 : ∀ ad : Addr, A137 = some ad → 0 < (l2.drop 1).length → ad.block ≠ g := fun ad he h_ => by cases he; exact Kd.foot_ne (fun W_ hk_ => Kd.C_of_reads (h1 := fun _ => rfl) (hA137 _ (Kd.reads_of_C (Kd.C_foot_ne (fun h => h) HR2.out hf2 W_ hk_)))) h_ (by decide)
                   clear hA137 hC137 hi0137 hsz137
                   have p184 : 0 ≤ (a1_4 : Int) := of_decide_eq_true (by first | (with_reducible assumption) | assumption)
                   have q184 : a1_4 < (s0_0.length : Int) := of_decide_eq_true (by first | (with_reducible assumption) | assumption)
                   obtain ⟨ad184, A184_0, c184_0, e184, hx184_0, hx184_1, hl184_0, hi184_0⟩ := at_T73 HS136_0 a1_4 p184 q184
                   have hw184_1 := hx184_1
                   have hw184_0 := hx184_0
                   obtain rfl : ad182 = ad184 := (by injection e184)
                   replace hx184_0 := pw_cell_below HB.out hx184_0
                   replace hx184_1 := pw_cell_below HB.out hx184_1
                   have HZ184_0 := zm hi184_0
                   have HC184_0 := zm hl184_0
                   clear hi184_0 hl184_0
                   have HR184_0 := zm (Kd.C_below HZ184_0.out HB.out)
                   replace p184 := eq_true p184
                   replace q184 := eq_true q184
                   have ea_ := Option.some.inj (hx182_0.symm.trans hx184_0)
                   injection ea_ with ea_ en_ ec_
                   subst ea_
                   subst ec_
                   clear en_
                   refine start_ (n := 23) (S := fun w' => w'.cell? ⟨gb138, 0, none⟩ = some (.int .i64 a1_0) ∧ w'.cell? ⟨gb138, 1, none⟩ = some (.int .i64 a1_1) ∧ w'.cell? ⟨gb138, 2, none⟩ = some (.int .i64 a1_2) ∧ w'.cell? ⟨gb138, 3, none⟩ = some (.int .i64 a1_3) ∧ w'.cell? ⟨gb138, 4, none⟩ = some (.int .i64 a1_4) ∧ w'.cell? ⟨gb138, 5, none⟩ = some (.string a1_5) ∧ w'.cell? ⟨gb138, 6, none⟩ = some (.slice A1_6 l1_6.length c1_6) ∧ w'.cell? ⟨gb138, 7, none⟩ = some (.bool a1_7) ∧ w'.cell? ⟨g, 0, none⟩ = some (.slice (some ad182) s0_0.length cS136_0) ∧ w'.cell? ⟨g, 1, none⟩ = some (.slice AS136_1 s0_1.length cS136_1) ∧ w'.cell? ⟨g, 2, none⟩ = some (.slice AS136_2 s0_2.length cS136_2) ∧ w'.cell? (ad182.add ((a1_4).toNat * 2)) = some (.slice A182_0 ((rd_T73 s0_0 a1_4).f0).length c182_0) ∧ w'.cell? ⟨(ad182.add ((a1_4).toNat * 2)).block, (ad182.add ((a1_4).toNat * 2)).off + 1, none⟩ = some (.int .i64 ((rd_T73 s0_0 a1_4).f1)) ∧ w'.cell? (ad182.add ((a1_4).toNat * 2)) = some (.slice A182_0 ((rd_T73 s0_0 a1_4).f0).length c182_0) ∧ w'.cell? ⟨(ad182.add ((a1_4).toNat * 2)).block, (ad182.add ((a1_4).toNat * 2)).off + 1, none⟩ = some (.int .i64 ((rd_T73 s0_0 a1_4).f1))) (ds := []) #[Z,Z,Z,Z,Z,Z,Z,Z,Z,Z,Z,Z,Z,Z,Z,Z,Z,Z,Z,Z,Z,Z,Z] (by kernel_rfl) rfl rfl ⟨(blk_cell BK138.out 0).trans rfl, (blk_cell BK138.out 1).trans rfl, (blk_cell BK138.out 2).trans rfl, (blk_cell BK138.out 3).trans rfl, (blk_cell BK138.out 4).trans rfl, (blk_cell BK138.out 5).trans rfl, (blk_cell BK138.out 6).trans rfl, (blk_cell BK138.out 7).trans rfl, hx136_0, hx136_1, hx136_2, (pw_cell_below HB.out hw182_0), (pw_cell_below HB.out hw182_1), (pw_cell_below HB.out hw184_0), (pw_cell_below HB.out hw184_1)⟩ (fun hHeld => ?_); refine with_tabW kind_result.tab30 kind_result.bits30 (fun HT_ HW_ => ?_)
                   generalize wc.drew = w135 at BK138 HI0 HK HB HR182_0 HR183 HR184_0 hx136_0 hx136_1 hx136_2 hx182_0 hx182_1 hx184_0 hx184_1 hHeld ⊢
                   refine pure_ (i := 0) (N := some 130) (v := ?_) (a' := ?_) #[Y,Z,Z,Z,Z,Z,Z,Z,Z,Z,Z,Z,Z,Z,Z,Z,Z,Z,Z,Z,Z,Z,Z] rfl rfl (any_of HT_.out (by kernel_rfl)) (fun _ _ _ h => h) (Or.inl ⟨by rfl, ?_⟩) ?_ ?_
                   rotate_left
                   ·intro w'
                    go_simp
                    with_reducible rfl
                   rotate_left
                   ·simp only [Act.put, zl1, zl2, zl3, i64_w, i32_w]
                    rfl
                   refine pure_ (i := 1) (N := some 131) (v := ?_) (a' := ?_) #[Y,Y,Z,Z,Z,Z,Z,Z,Z,Z,Z,Z,Z,Z,Z,Z,Z,Z,Z,Z,Z,Z,Z] rfl rfl (any_of HT_.out (by kernel_rfl)) (fun _ _ _ h => h) (Or.inl ⟨by rfl, ?_⟩) ?_ ?_
                   rotate_left
                   ·intro w'
                    go_simp
                    with_reducible rfl
                   rotate_left
                   ·simp only [Act.put, zl1, zl2, zl3, i64_w, i32_w]
                    rfl
                   refine pure_ (i := 2) (N := some 132) (v := ?_) (a' := ?_) #[Y,Y,Y,Z,Z,Z,Z,Z,Z,Z,Z,Z,Z,Z,Z,Z,Z,Z,Z,Z,Z,Z,Z] rfl rfl (any_of HT_.out (by kernel_rfl)) (fun _ _ _ h => h) (Or.inl ⟨by rfl, ?_⟩) ?_ ?_
                   rotate_left
                   ·intro w'
                    go_simp
                    with_reducible rfl
                   rotate_left
                   ·simp only [Act.put, zl1, zl2, zl3, i64_w, i32_w]
                    rfl
                   refine pure_ (i := 4) (N := some 134) (v := ?_) (a' := ?_) #[Y,Y,Y,Z,Y,Z,Z,Z,Z,Z,Z,Z,Z,Z,Z,Z,Z,Z,Z,Z,Z,Z,Z] rfl rfl (any_of HT_.out (by kernel_rfl)) (fun _ _ _ h => h) (Or.inl ⟨by rfl, ?_⟩) ?_ ?_
                   rotate_left
                   ·intro w'
                    go_simp
                    with_reducible rfl
                   rotate_left
                   ·simp only [Act.put, zl1, zl2, zl3, i64_w, i32_w]
                    rfl
                   refine pure_ (i := 9) (N := some 139) (v := ?_) (a' := ?_) #[Y,Y,Y,Z,Y,Z,Z,Z,Z,Y,Z,Z,Z,Z,Z,Z,Z,Z,Z,Z,Z,Z,Z] rfl rfl (any_of HT_.out (by kernel_rfl)) (fun _ _ _ h => h) (Or.inl ⟨by rfl, ?_⟩) ?_ ?_
                   rotate_left
                   ·intro w'
                    go_simp
                    with_reducible rfl
                   rotate_left
                   ·simp only [Act.put, zl1, zl2, zl3, i64_w, i32_w]
                    rfl
                   refine pure_ (i := 10) (N := some 140) (v := ?_) (a' := ?_) #[Y,Y,Y,Z,Y,Z,Z,Z,Z,Y,Y,Z,Z,Z,Z,Z,Z,Z,Z,Z,Z,Z,Z] rfl rfl (any_of HT_.out (by kernel_rfl)) (fun _ _ _ h => h) (Or.inl ⟨by rfl, ?_⟩) ?_ ?_
                   rotate_left
                   ·intro w'
                    go_simp
                    with_reducible rfl
                   rotate_left
                   ·simp only [Act.put, zl1, zl2, zl3, i64_w, i32_w]
                    rfl
                   refine pure_ (i := 11) (N := some 141) (v := ?_) (a' := ?_) #[Y,Y,Y,Z,Y,Z,Z,Z,Z,Y,Y,Y,Z,Z,Z,Z,Z,Z,Z,Z,Z,Z,Z] rfl rfl (any_of HT_.out (by kernel_rfl)) (fun _ _ _ h => h) (Or.inl ⟨by rfl, ?_⟩) ?_ ?_
                   rotate_left
                   ·intro w'
                    go_simp
                    with_reducible rfl
                   rotate_left
                   ·simp only [Act.put, zl1, zl2, zl3, i64_w, i32_w]
                    rfl
                   refine pure_ (i := 12) (N := some 142) (v := ?_) (a' := ?_) #[Y,Y,Y,Z,Y,Z,Z,Z,Z,Y,Y,Y,Y,Z,Z,Z,Z,Z,Z,Z,Z,Z,Z] rfl rfl (any_of HT_.out (by kernel_rfl)) (fun _ _ _ h => h) (Or.inl ⟨by rfl, ?_⟩) ?_ ?_
                   rotate_left
                   ·intro w'
                    go_simp
                    with_reducible rfl
                   rotate_left
                   ·simp only [Act.put, zl1, zl2, zl3, i64_w, i32_w]
                    rfl
                   refine pure_ (i := 13) (N := some 143) (v := ?_) (a' := ?_) #[Y,Y,Y,Z,Y,Z,Z,Z,Z,Y,Y,Y,Y,Y,Z,Z,Z,Z,Z,Z,Z,Z,Z] rfl rfl (any_of HT_.out (by kernel_rfl)) (fun _ _ _ h => h) (Or.inl ⟨by rfl, ?_⟩) ?_ ?_
                   rotate_left
                   ·intro w'
                    go_simp
                    with_reducible rfl
                   rotate_left
                   ·simp only [Act.put, zl1, zl2, zl3, i64_w, i32_w]
                    rfl
                   refine pure_ (i := 15) (N := some 145) (v := ?_) (a' := ?_) #[Y,Y,Y,Z,Y,Z,Z,Z,Z,Y,Y,Y,Y,Y,Z,Y,Z,Z,Z,Z,Z,Z,Z] rfl rfl (any_of HT_.out (by kernel_rfl)) (fun _ _ _ h => h) (Or.inl ⟨by rfl, ?_⟩) ?_ ?_
                   rotate_left
                   ·intro w'
                    go_simp
                    with_reducible rfl
                   rotate_left
                   ·simp only [Act.put, zl1, zl2, zl3, i64_w, i32_w]
                    rfl
                   refine take_ (i := 3) (N := some 133) (v := ?_) (a' := ?_) #[Y,Y,Y,Y,Y,Z,Z,Z,Z,Y,Y,Y,Y,Y,Z,Y,Z,Z,Z,Z,Z,Z,Z] rfl rfl (take_ofW HT_.out HW_.out (by kernel_rfl)) (fun _ _ _ h => h) (Or.inl ⟨by rfl, ?_⟩) hHeld ?_ ?_
                   rotate_left
                   ·rintro w' ⟨s0, s1, s2, s3, s4, s5, s6, s7, s8, s9, s10, s11, s12, s13, s14⟩
                    go_simp
                    with_reducible rfl
                   rotate_left
                   ·simp only [Act.put, zl1, zl2, zl3, i64_w, i32_w]
                    rfl
                   refine take_ (i := 5) (N := some 135) (v := ?_) (a' := ?_) #[Y,Y,Y,Y,Y,Y,Z,Z,Z,Y,Y,Y,Y,Y,Z,Y,Z,Z,Z,Z,Z,Z,Z] rfl rfl (take_ofW HT_.out HW_.out (by kernel_rfl)) (fun _ _ _ h => h) (Or.inl ⟨by rfl, ?_⟩) hHeld ?_ ?_
                   rotate_left
                   ·rintro w' ⟨s0, s1, s2, s3, s4, s5, s6, s7, s8, s9, s10, s11, s12, s13, s14⟩
                    go_simp
                    with_reducible rfl
                   rotate_left
                   ·simp only [Act.put, zl1, zl2, zl3, i64_w, i32_w]
                    rfl
                   refine pure_ (i := 6) (N := some 136) (v := ?_) (a' := ?_) #[Y,Y,Y,Y,Y,Y,Y,Z,Z,Y,Y,Y,Y,Y,Z,Y,Z,Z,Z,Z,Z,Z,Z] rfl rfl (any_of HT_.out (by kernel_rfl)) (fun _ _ _ h => h) (Or.inl ⟨by rfl, ?_⟩) ?_ ?_
                   rotate_left
                   ·intro w'
                    go_simp
                    with_reducible rfl
                   rotate_left
                   ·simp only [Act.put, zl1, zl2, zl3, i64_w, i32_w]
                    rfl
                   refine pure_ (i := 7) (N := some 137) (v := ?_) (a' := ?_) #[Y,Y,Y,Y,Y,Y,Y,Y,Z,Y,Y,Y,Y,Y,Z,Y,Z,Z,Z,Z,Z,Z,Z] rfl rfl (any_of HT_.out (by kernel_rfl)) (fun _ _ _ h => h) (Or.inl ⟨by rfl, ?_⟩) ?_ ?_
                   rotate_left
                   ·intro w'
                    go_simp
                    with_reducible rfl
                   rotate_left
                   ·simp only [Act.put, zl1, zl2, zl3, i64_w, i32_w]
                    rfl
                   refine take_ (i := 8) (N := some 138) (v := ?_) (a' := ?_) #[Y,Y,Y,Y,Y,Y,Y,Y,Y,Y,Y,Y,Y,Y,Z,Y,Z,Z,Z,Z,Z,Z,Z] rfl rfl (take_ofW HT_.out HW_.out (by kernel_rfl)) (fun _ _ _ h => h) (Or.inl ⟨by rfl, ?_⟩) hHeld ?_ ?_
                   rotate_left
                   ·rintro w' ⟨s0, s1, s2, s3, s4, s5, s6, s7, s8, s9, s10, s11, s12, s13, s14⟩
                    go_simp
                    with_reducible rfl
                   rotate_left
                   ·simp only [Act.put, zl1, zl2, zl3, i64_w, i32_w]
                    rfl
                   refine take_ (i := 14) (N := some 144) (v := ?_) (a' := ?_) #[Y,Y,Y,Y,Y,Y,Y,Y,Y,Y,Y,Y,Y,Y,Y,Y,Z,Z,Z,Z,Z,Z,Z] rfl rfl (take_ofW HT_.out HW_.out (by kernel_rfl)) (fun _ _ _ h => h) (Or.inl ⟨by rfl, ?_⟩) hHeld ?_ ?_
                   rotate_left
                   ·rintro w' ⟨s0, s1, s2, s3, s4, s5, s6, s7, s8, s9, s10, s11, s12, s13, s14⟩
                    go_simp
                    with_reducible rfl
                   rotate_left
                   ·simp only [Act.put, zl1, zl2, zl3, i64_w, i32_w]
                    rfl
                   refine take_ (i := 16) (N := some 146) (v := ?_) (a' := ?_) #[Y,Y,Y,Y,Y,Y,Y,Y,Y,Y,Y,Y,Y,Y,Y,Y,Y,Z,Z,Z,Z,Z,Z] rfl rfl (take_ofW HT_.out HW_.out (by kernel_rfl)) (fun _ _ _ h => h) (Or.inl ⟨by rfl, ?_⟩) hHeld ?_ ?_
                   rotate_left
                   ·rintro w' ⟨s0, s1, s2, s3, s4, s5, s6, s7, s8, s9, s10, s11, s12, s13, s14⟩
                    go_simp
                    with_reducible rfl
                   rotate_left
                   ·simp only [Act.put, zl1, zl2, zl3, i64_w, i32_w]
                    rfl
                   refine pure_ (i := 17) (N := some 147) (v := ?_) (a' := ?_) #[Y,Y,Y,Y,Y,Y,Y,Y,Y,Y,Y,Y,Y,Y,Y,Y,Y,Y,Z,Z,Z,Z,Z] rfl rfl (any_of HT_.out (by kernel_rfl)) (fun _ _ _ h => h) (Or.inl ⟨by rfl, ?_⟩) ?_ ?_
                   rotate_left
                   ·intro w'
                    go_simp
                    with_reducible rfl
                   rotate_left
                   ·simp only [Act.put, zl1, zl2, zl3, i64_w, i32_w]
                    rfl
                   refine pure_ (i := 18) (N := some 148) (v := ?_) (a' := ?_) #[Y,Y,Y,Y,Y,Y,Y,Y,Y,Y,Y,Y,Y,Y,Y,Y,Y,Y,Y,Z,Z,Z,Z] rfl rfl (any_of HT_.out (by kernel_rfl)) (fun _ _ _ h => h) (Or.inl ⟨by rfl, ?_⟩) ?_ ?_
                   rotate_left
                   ·intro w'
                    go_simp
                    with_reducible rfl
                   rotate_left
                   ·simp only [Act.put, zl1, zl2, zl3, i64_w, i32_w]
                    rfl
                   refine take_ (i := 19) (N := some 149) (v := ?_) (a' := ?_) #[Y,Y,Y,Y,Y,Y,Y,Y,Y,Y,Y,Y,Y,Y,Y,Y,Y,Y,Y,Y,Z,Z,Z] rfl rfl (take_ofW HT_.out HW_.out (by kernel_rfl)) (fun _ _ _ h => h) (Or.inl ⟨by rfl, ?_⟩) hHeld ?_ ?_
                   rotate_left
                   ·rintro w' ⟨s0, s1, s2, s3, s4, s5, s6, s7, s8, s9, s10, s11, s12, s13, s14⟩
                    go_simp
                    with_reducible rfl
                   rotate_left
                   ·simp only [Act.put, zl1, zl2, zl3, i64_w, i32_w]
                    rfl
                   refine one_ (i := 20) (N := some 150) #[Y,Y,Y,Y,Y,Y,Y,Y,Y,Y,Y,Y,Y,Y,Y,Y,Y,Y,Y,Y,Y,Z,Z] rfl rfl (one_of HT_.out (by kernel_rfl)) (by decide) (fun K hK => ?_)
                   refine goes_ Tryd.func42 (by kernel_rfl) rfl #[.slice A137 (l2.drop 1).length (c2 - 1), .slice A182_0 ((rd_T73 s0_0 a1_4).f0).length c182_0] (by rfl) rfl rfl (by (try simp only [List.map_toArray, List.map_cons, List.map_nil]); first | done | (rw [show (l2.drop 1).length = (l2.length - 1) from List.length_drop] <;> rfl) | rfl | (simp only [List.length_drop, List.length_take]; rfl)) ?_
                   with_reducible refine (slices_Equal_int_int.calls kj118 _ _ (l2.drop 1) _ _ ((rd_T73 s0_0 a1_4).f0) t185 _ ?side1 ?side2 ?side3 ?side4 A134.out).mono ?_
                   (case side1 => exact Kd.C_keep 0 HR183.out (by repeat (first | (with_reducible first | exact HK.out | apply KeepBut.set_ | apply keep_drewN | apply keep_drew | apply keep_alloc | refine keep_far ?_ GW138.out _) | exact HK.out)) hf183)
                   (case side2 => exact HC183.out)
                   (case side3 => repeat (first | exact HR184_0.out | (with_reducible refine Kd.C_alloc ?_ _) | (with_reducible refine Kd.C_drewN ?_ _) | (with_reducible refine Kd.C_drew ?_)))
                   (case side4 => exact HC184_0.out)
                   rintro e w' ⟨rfl, ⟨nd, rfl⟩⟩
                   refine ⟨_, rfl, ?_⟩
                   refine hK.out _ _ ⟨(blk_cell BK138.out 0).trans rfl, (blk_cell BK138.out 1).trans rfl, (blk_cell BK138.out 2).trans rfl, (blk_cell BK138.out 3).trans rfl, (blk_cell BK138.out 4).trans rfl, (blk_cell BK138.out 5).trans rfl, (blk_cell BK138.out 6).trans rfl, (blk_cell BK138.out 7).trans rfl, hHeld.2.2.2.2.2.2.2.2.1, hHeld.2.2.2.2.2.2.2.2.2.1, hHeld.2.2.2.2.2.2.2.2.2.2.1, (pw_cell_below HB.out hw182_0), (pw_cell_below HB.out hw182_1), (pw_cell_below HB.out hw184_0), (pw_cell_below HB.out hw184_1)⟩ (fun hHeld => ?_)
                   clear hK K
                   refine norm_ (a' := ?_) ?_ ?_
                   rotate_left
                   ·show Act.put _ (some 150) _ = _
                    simp only [Act.put, zl1, zl2, zl3, i64_w, i32_w]
                    rfl
                   refine pure_ (i := 21) (N := some 6) (v := ?_) (a' := ?_) #[Y,Y,Y,Y,Y,Y,Y,Y,Y,Y,Y,Y,Y,Y,Y,Y,Y,Y,Y,Y,Y,Y,Z] rfl rfl (any_of HT_.out (by kernel_rfl)) (fun _ _ _ h => h) (Or.inl ⟨by rfl, ?_⟩) ?_ ?_
                   rotate_left
                   ·intro w'
                    go_simp
                    with_reducible rfl
                   rotate_left
                   ·simp only [Act.put, zl1, zl2, zl3, i64_w, i32_w]
                    rfl
                   refine pure_ (i := 22) (N := some 7) (v := ?_) (a' := ?_) #[Y,Y,Y,Y,Y,Y,Y,Y,Y,Y,Y,Y,Y,Y,Y,Y,Y,Y,Y,Y,Y,Y,Y] rfl rfl (any_of HT_.out (by kernel_rfl)) (fun _ _ _ h => h) (Or.inl ⟨by rfl, ?_⟩) ?_ ?_
                   rotate_left
                   ·intro w'
                    go_simp
                    with_reducible rfl
                   rotate_left
                   ·simp only [Act.put, zl1, zl2, zl3, i64_w, i32_w]
                    rfl
                   refine done_ (done_of HT_.out (by kernel_rfl)) ?_
                   try go_wp2
                   go_ret2
                   exact ⟨by first | rfl | (simp [errW_none, errW_some] <;> rfl) | (simp [*, errW_none, errW_some] <;> rfl), by repeat (first | (with_reducible first | exact HI0.out | apply IsS26.alloc | apply IsS26.drewN | apply IsS26.drew | refine IsS26.far ?_ NB0_138.out _) | exact HI0.out), by repeat (first | (with_reducible first | exact HB.out | apply below_alloc | apply pw_below_drewN | apply below_drew1 | refine below_set ?_ (IsS26.ge HI0.out) | refine below_set ?_ GE138.out) | exact HB.out), by repeat (first | (with_reducible first | exact HK.out | apply KeepBut.set_ | apply keep_drewN | apply keep_drew | apply keep_alloc | refine keep_far ?_ GW138.out _) | exact HK.out)⟩
                  ·rw [if_neg c133] at H
                   exact absurd H (by simp)
                 ·rw [if_neg c132] at H
                  exact absurd H (by simp)
                ·rw [if_neg c131] at H
                 exact absurd H (by simp)
            ·rw [if_neg c118] at H
             have c118b0 : (a1_0 == 24) = false := beq_eq_false_iff_ne.mpr c118
             have c118b1 : (a1_0 != 24) = true := bne_iff_ne.mpr c118
             replace H := Option.bind_eq_some_iff.mp H
             obtain ⟨⟨t186, t187⟩, A1380, H⟩ := H
             replace H : (some (t186, t187)) = some (r1, r2) := H
             have A138 := zm A1380
             clear A1380
             simp only [Option.some.injEq, Prod.mk.injEq] at H
             obtain ⟨rfl, rfl⟩ := H
             go_enter Tryd.func34, Tryd.ntmps34
             go_wp2_with (first | ((with_reducible refine gate_dst (N := 4) rfl ?_); (try (refine gate_guard (by rfl) ?_; dsimp only)); refine box_event ?hg (N := 4) ?hd (cs := #[.int .i64 a1_0, .int .i64 a1_1, .int .i64 a1_2, .int .i64 a1_3, .int .i64 a1_4, .string a1_5, .slice A1_6 l1_6.length c1_6, .bool a1_7]) (t := 33) ?hr ?_; (case hd => rfl); (case hg => rfl); (case hr => first | (go_simp; done) | (go_simp; rfl)); intro gb138 hg w139 hbox hb; have n0_ := zm (IsS26.below (by repeat (first | (with_reducible first | exact HI0.out | apply IsS26.alloc | apply IsS26.drewN | apply IsS26.drew) | exact HI0.out)) hb); have n1_ := zm (KeepBut.trans (by repeat (first | (with_reducible first | exact HK.out | apply KeepBut.set_ | apply keep_drewN | apply keep_drew | apply keep_alloc) | exact HK.out)) (KeepBut.of_below hb g none) (.inl rfl)); have n2_ := zm (below_step (by repeat (first | (with_reducible first | exact HB.out | apply below_alloc | apply pw_below_drewN | apply below_drew1 | refine below_set ?_ (IsS26.ge HI0.out)) | exact HB.out)) hb); have n3_ := zm (hbox); have n4_ := zm ((by rw [hg]; exact (keep_size (w := w) (g := g) (row := none) (by repeat (first | (with_reducible first | exact HK.out | apply KeepBut.set_ | apply keep_drewN | apply keep_drew | apply keep_alloc) | exact HK.out))) : w.heap.size ≤ gb138)); have n5_ := zm ((Nat.le_trans HW0.out (by rw [hg]; exact (keep_size (w := w) (g := g) (row := none) (by repeat (first | (with_reducible first | exact HK.out | apply KeepBut.set_ | apply keep_drewN | apply keep_drew | apply keep_alloc) | exact HK.out))) : w.heap.size ≤ gb138) : w0.heap.size ≤ gb138)); have n6_ := zm ((by rw [hg]; exact Nat.ne_of_lt (IsS26.lt (show IsS26 w0 _ g s0_0 s0_1 s0_2 from by repeat (first | (with_reducible first | exact HI0.out | apply IsS26.alloc | apply IsS26.drewN | apply IsS26.drew) | exact HI0.out))) : g ≠ gb138)); have n7_ := zm ((by rw [hg]; exact Nat.ne_of_gt (IsS26.lt (show IsS26 w0 _ g s0_0 s0_1 s0_2 from by repeat (first | (with_reducible first | exact HI0.out | apply IsS26.alloc | apply IsS26.drewN | apply IsS26.drew) | exact HI0.out))) : gb138 ≠ g)); clear HI0; clear HK; clear HB; have HI0 := n0_; have HK := n1_; have HB := n2_; have BK138 := n3_; have GW138 := n4_; have GE138 := n5_; have NB0_138 := n6_; have NB138_0 := n7_; clear n0_ n1_ n2_ n3_ n4_ n5_ n6_ n7_; clear hb hbox hg; have hnb140 := NB138_0.out; have hnc140 := NB0_138.out; have hcz141_0 : w139.cell? ⟨gb138, 0, none⟩ = some (.int .i64 a1_0) := (blk_cell BK138.out 0).trans rfl; have hcz141_1 : w139.cell? ⟨gb138, 1, none⟩ = some (.int .i64 a1_1) := (blk_cell BK138.out 1).trans rfl; have hcz141_2 : w139.cell? ⟨gb138, 2, none⟩ = some (.int .i64 a1_2) := (blk_cell BK138.out 2).trans rfl; have hcz141_3 : w139.cell? ⟨gb138, 3, none⟩ = some (.int .i64 a1_3) := (blk_cell BK138.out 3).trans rfl; have hcz141_4 : w139.cell? ⟨gb138, 4, none⟩ = some (.int .i64 a1_4) := (blk_cell BK138.out 4).trans rfl; have hcz141_5 : w139.cell? ⟨gb138, 5, none⟩ = some (.string a1_5) := (blk_cell BK138.out 5).trans rfl; have hcz141_6 : w139.cell? ⟨gb138, 6, none⟩ = some (.slice A1_6 l1_6.length c1_6) := (blk_cell BK138.out 6).trans rfl; have hcz141_7 : w139.cell? ⟨gb138, 7, none⟩ = some (.bool a1_7) := (blk_cell BK138.out 7).trans rfl; have hfz141_0 := blk_frozen BK138.out 0; have hfz141_1 := blk_frozen BK138.out 1; have hfz141_2 := blk_frozen BK138.out 2; have hfz141_3 := blk_frozen BK138.out 3; have hfz141_4 := blk_frozen BK138.out 4; have hfz141_5 := blk_frozen BK138.out 5; have hfz141_6 := blk_frozen BK138.out 6; have hfz141_7 := blk_frozen BK138.out 7) | ((with_reducible refine gate_callee (f := 43) rfl ?_); refine goesL_ (some 154) rfl rfl Tryd.func43 (by kernel_rfl) rfl #[.pointer (some ⟨g, 0, none⟩), .agg #[.int .i64 a1_0, .int .i64 a1_1, .int .i64 a1_2, .int .i64 a1_3, .int .i64 a1_4, .string a1_5, .slice A1_6 l1_6.length c1_6, .bool a1_7], .slice A2 l2.length c2] rfl (by (try simp only [List.map_toArray, List.map_cons, List.map_nil]); first | done | rfl | (simp only [List.length_drop, List.length_take]; rfl)) ?_; (with_reducible refine (kind_memory.calls g s0_0 s0_1 s0_2 a1_0 a1_1 a1_2 a1_3 a1_4 a1_5 _ _ l1_6 a1_7 _ _ l2 t186 t187 w0 _ ?side1 ?side2 ?side3 ?side4 ?side5 ?side6 ?side7 ?side8 A138.out).mono ?_); (case side1 => repeat (first | (with_reducible first | exact HI0.out | apply IsS26.alloc | apply IsS26.drewN | apply IsS26.drew | refine IsS26.far ?_ NB0_138.out _) | exact HI0.out)); (case side2 => repeat (first | (with_reducible first | exact HB.out | apply below_alloc | apply pw_below_drewN | apply below_drew1 | refine below_set ?_ (IsS26.ge HI0.out) | refine below_set ?_ GE138.out) | exact HB.out)); (case side3 => exact Kd.C_keep 0 HR1_6.out (by repeat (first | (with_reducible first | exact HK.out | apply KeepBut.set_ | apply keep_drewN | apply keep_drew | apply keep_alloc | refine keep_far ?_ GW138.out _) | exact HK.out)) hf1_6); (case side4 => exact HC1_6.out); (case side5 => exact hf1_6); (case side6 => exact Kd.C_keep 0 HR2.out (by repeat (first | (with_reducible first | exact HK.out | apply KeepBut.set_ | apply keep_drewN | apply keep_drew | apply keep_alloc | refine keep_far ?_ GW138.out _) | exact HK.out)) hf2); (case side7 => exact HC2.out); (case side8 => exact hf2); rintro e w142 ⟨rfl, hi, hb, hk⟩; refine ⟨_, rfl, ?_⟩; have n0_ := zm (KeepBut.blk hk (g' := gb138) (o := .cells #[.int .i64 a1_0, .int .i64 a1_1, .int .i64 a1_2, .int .i64 a1_3, .int .i64 a1_4, .string a1_5, .slice A1_6 l1_6.length c1_6, .bool a1_7] 33 (0, 0)) (by (with_reducible repeat (first | refine blk_drewN ?_ _ | refine blk_drew ?_ | refine blk_alloc ?_ _)); exact BK138.out) NB138_0.out (by simp)); have n1_ := zm (KeepBut.trans (by repeat (first | (with_reducible first | exact HK.out | apply KeepBut.set_ | apply keep_drewN | apply keep_drew | apply keep_alloc | refine keep_far ?_ GW138.out _) | exact HK.out)) hk (.inl rfl)); have n2_ := zm (hb); have n3_ := zm (hi); clear BK138; clear HK; clear HB; clear HI0; have BK138 := n0_; have HK := n1_; have HB := n2_; have HI0 := n3_; clear n0_ n1_ n2_ n3_; (try clear hb); (try clear hb2); (try clear hk); (try clear hi)))
             go_ret2
             exact ⟨by first | rfl | (simp [errW_none, errW_some] <;> rfl) | (simp [*, errW_none, errW_some] <;> rfl), by repeat (first | (with_reducible first | exact HI0.out | apply IsS26.alloc | apply IsS26.drewN | apply IsS26.drew | refine IsS26.far ?_ NB0_138.out _) | exact HI0.out), by repeat (first | (with_reducible first | exact HB.out | apply below_alloc | apply pw_below_drewN | apply below_drew1 | refine below_set ?_ (IsS26.ge HI0.out) | refine below_set ?_ GE138.out) | exact HB.out), by repeat (first | (with_reducible first | exact HK.out | apply KeepBut.set_ | apply keep_drewN | apply keep_drew | apply keep_alloc | refine keep_far ?_ GW138.out _) | exact HK.out)⟩

end Go.Proofs.YtbjdiaefchcbjaaDoor.PKindResults
