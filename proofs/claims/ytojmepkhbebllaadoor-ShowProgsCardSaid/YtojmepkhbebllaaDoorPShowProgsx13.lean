-- written by wip/print2.py
import Derived.Test.YtojmepkhbebllaaDoorPShowProgsx0
import Derived.Test.YtojmepkhbebllaaDoorPShowProgsx8
import Derived.Test.YtojmepkhbebllaaDoorPShowProgsx10
import Derived.Test.YtojmepkhbebllaaDoorPShowProgsx11
import Derived.Test.YtojmepkhbebllaaDoorPShowProgsx12
namespace Go.Proofs.YtojmepkhbebllaaDoor.PShowProgs
open Go.RowKit Go.Proofs.YtojmepkhbebllaaDoorW.PrintWords Go.Proofs.YtojmepkhbebllaaDoorW.PrintLast Go.Proofs.YtojmepkhbebllaaDoorW.PrintMore
attribute [local go_sem] max2_int min2_int max_two min_two max_three min_three max_four min_four   -- for this text's walks alone
set_option linter.unusedVariables false
set_option linter.unusedSimpArgs false

/-! ### hallmarkref06_Func: function 18 -/
mutual
def hallmarkref06_Func.l0 : Nat → ByteArray → Int → Int → Int → List (S59) → Option (ByteArray)
 | 0, _, _, _, _, _ => none
 | k + 1, x3, x4, x5, x212000, x212001 => if x5 < (x212001.length : Int) then (if 0 ≤ x5 then ((hallmarkref06_num.f k x5).bind fun t215 => (if x3.size + t215.size ≤ 9223372036854775807 then (if (x3 ++ t215).size + 1 ≤ 9223372036854775807 then ((hallmarkref06_list.f k ((rd_T59 x212001 x5).f0) 0).bind fun t216 => (if ((x3 ++ t215) ++ (⟨#[40]⟩ : ByteArray)).size + t216.size ≤ 9223372036854775807 then (if (((x3 ++ t215) ++ (⟨#[40]⟩ : ByteArray)) ++ t216).size + 2 ≤ 9223372036854775807 then (hallmarkref06_Func.l1 k ((((x3 ++ t215) ++ (⟨#[40]⟩ : ByteArray)) ++ t216) ++ (⟨#[41, 10]⟩ : ByteArray)) (wrap64 (x4 + (((rd_T59 x212001 x5).f0).length : Int))) x5 0 x212000 x212001 ((rd_T59 x212001 x5).f0) ((rd_T59 x212001 x5).f1) ((rd_T59 x212001 x5).f2.f0) ((rd_T59 x212001 x5).f2.f1) ((rd_T59 x212001 x5).f2.f2) ((rd_T59 x212001 x5).f2.f3) ((rd_T59 x212001 x5).f2.f4) ((rd_T59 x212001 x5).f2.f5)) else (none)) else (none))) else (none)) else (none))) else (none)) else (some x3)
def hallmarkref06_Func.l1 : Nat → ByteArray → Int → Int → Int → Int → List (S59) → List Int → List (S24) → Int → Int → Int → Int → List Int → List Int → Option (ByteArray)
 | 0, _, _, _, _, _, _, _, _, _, _, _, _, _, _ => none
 | k + 1, x3, x4, x5, x7, x212000, x212001, x215000, x215001, x215002, x215003, x215004, x215005, x215006, x215007 => if x7 < (x215001.length : Int) then (if x3.size + 3 ≤ 9223372036854775807 then ((hallmarkref06_num.f k x4).bind fun t217 => (if (x3 ++ (⟨#[32, 32, 118]⟩ : ByteArray)).size + t217.size ≤ 9223372036854775807 then (if ((x3 ++ (⟨#[32, 32, 118]⟩ : ByteArray)) ++ t217).size + 3 ≤ 9223372036854775807 then (if 0 ≤ x7 then ((hallmarkref06_Op.f k ((rd_T24 x215001 x7).f0) ((rd_T24 x215001 x7).f1) ((rd_T24 x215001 x7).f2) ((rd_T24 x215001 x7).f3) ((rd_T24 x215001 x7).f4) ((rd_T24 x215001 x7).f5) ((rd_T24 x215001 x7).f6) ((rd_T24 x215001 x7).f7)).bind fun t219 => (if (((x3 ++ (⟨#[32, 32, 118]⟩ : ByteArray)) ++ t217) ++ (⟨#[32, 61, 32]⟩ : ByteArray)).size + t219.size ≤ 9223372036854775807 then (if ((((x3 ++ (⟨#[32, 32, 118]⟩ : ByteArray)) ++ t217) ++ (⟨#[32, 61, 32]⟩ : ByteArray)) ++ t219).size + 1 ≤ 9223372036854775807 then (hallmarkref06_Func.l1 k (((((x3 ++ (⟨#[32, 32, 118]⟩ : ByteArray)) ++ t217) ++ (⟨#[32, 61, 32]⟩ : ByteArray)) ++ t219) ++ (⟨#[10]⟩ : ByteArray)) (wrap64 (x4 + 1)) x5 (wrap64 (x7 + 1)) x212000 x212001 x215000 x215001 x215002 x215003 x215004 x215005 x215006 x215007) else (none)) else (none))) else (none)) else (none)) else (none))) else (none)) else (if x3.size + 2 ≤ 9223372036854775807 then ((hallmarkref06_end.f k x215002 x215003 x215004 x215005 x215006 x215007).bind fun t220 => (if (x3 ++ (⟨#[32, 32]⟩ : ByteArray)).size + t220.size ≤ 9223372036854775807 then (if ((x3 ++ (⟨#[32, 32]⟩ : ByteArray)) ++ t220).size + 1 ≤ 9223372036854775807 then (hallmarkref06_Func.l0 k (((x3 ++ (⟨#[32, 32]⟩ : ByteArray)) ++ t220) ++ (⟨#[10]⟩ : ByteArray)) x4 (wrap64 (x5 + 1)) x212000 x212001) else (none)) else (none))) else (none))
end
def hallmarkref06_Func.f (k : Nat) (a0_0 : Int) (l0_1 : List (S59)) : Option (ByteArray) := (hallmarkref06_Type.f k a0_0).bind fun t212 => (if 5 + t212.size ≤ 9223372036854775807 then (if ((⟨#[102, 117, 110, 99, 32]⟩ : ByteArray) ++ t212).size + 1 ≤ 9223372036854775807 then (hallmarkref06_Func.l0 k (((⟨#[102, 117, 110, 99, 32]⟩ : ByteArray) ++ t212) ++ (⟨#[10]⟩ : ByteArray)) 0 0 a0_0 l0_1) else (none)) else (none))
theorem hallmarkref06_Func.mono_l : ∀ k, (∀ y0 y1 y2 y3 y4, LeO (hallmarkref06_Func.l0 k y0 y1 y2 y3 y4) (hallmarkref06_Func.l0 (k + 1) y0 y1 y2 y3 y4)) ∧ (∀ y0 y1 y2 y3 y4 y5 y6 y7 y8 y9 y10 y11 y12 y13, LeO (hallmarkref06_Func.l1 k y0 y1 y2 y3 y4 y5 y6 y7 y8 y9 y10 y11 y12 y13) (hallmarkref06_Func.l1 (k + 1) y0 y1 y2 y3 y4 y5 y6 y7 y8 y9 y10 y11 y12 y13))
 | 0 => ⟨fun _ _ _ _ _ r h => by simp [hallmarkref06_Func.l0] at h, fun _ _ _ _ _ _ _ _ _ _ _ _ _ _ r h => by simp [hallmarkref06_Func.l1] at h⟩
 | k + 1 => by
  obtain ⟨ih0, ih1⟩ := hallmarkref06_Func.mono_l k
  refine ⟨?_, ?_⟩
  ·intro y0 y1 y2 y3 y4
   unfold hallmarkref06_Func.l0
   repeat' first
   | (with_reducible exact ih0 _ _ _ _ _)
   | (with_reducible exact ih1 _ _ _ _ _ _ _ _ _ _ _ _ _ _)
   | (with_reducible exact hallmarkref06_Op.mono _ _ _ _ _ _ _ _ _)
   | (with_reducible exact hallmarkref06_Type.mono _ _)
   | (with_reducible exact hallmarkref06_end.mono _ _ _ _ _ _ _)
   | (with_reducible exact hallmarkref06_list.mono _ _ _)
   | (with_reducible exact hallmarkref06_num.mono _ _)
   | (with_reducible exact LeO.refl _)
   | (with_reducible exact LeO.none _)
   | (with_reducible refine LeO.ite ?_ ?_)
   | (with_reducible refine LeO.bind ?_ (fun _ => ?_))
   | exact ih0 _ _ _ _ _
   | exact ih1 _ _ _ _ _ _ _ _ _ _ _ _ _ _
   | exact hallmarkref06_Op.mono _ _ _ _ _ _ _ _ _
   | exact hallmarkref06_Type.mono _ _
   | exact hallmarkref06_end.mono _ _ _ _ _ _ _
   | exact hallmarkref06_list.mono _ _ _
   | exact hallmarkref06_num.mono _ _
   | exact LeO.none _
   | refine LeO.ite ?_ ?_
   | refine LeO.bind ?_ (fun _ => ?_)
  ·intro y0 y1 y2 y3 y4 y5 y6 y7 y8 y9 y10 y11 y12 y13
   unfold hallmarkref06_Func.l1
   repeat' first
   | (with_reducible exact ih0 _ _ _ _ _)
   | (with_reducible exact ih1 _ _ _ _ _ _ _ _ _ _ _ _ _ _)
   | (with_reducible exact hallmarkref06_Op.mono _ _ _ _ _ _ _ _ _)
   | (with_reducible exact hallmarkref06_Type.mono _ _)
   | (with_reducible exact hallmarkref06_end.mono _ _ _ _ _ _ _)
   | (with_reducible exact hallmarkref06_list.mono _ _ _)
   | (with_reducible exact hallmarkref06_num.mono _ _)
   | (with_reducible exact LeO.refl _)
   | (with_reducible exact LeO.none _)
   | (with_reducible refine LeO.ite ?_ ?_)
   | (with_reducible refine LeO.bind ?_ (fun _ => ?_))
   | exact ih0 _ _ _ _ _
   | exact ih1 _ _ _ _ _ _ _ _ _ _ _ _ _ _
   | exact hallmarkref06_Op.mono _ _ _ _ _ _ _ _ _
   | exact hallmarkref06_Type.mono _ _
   | exact hallmarkref06_end.mono _ _ _ _ _ _ _
   | exact hallmarkref06_list.mono _ _ _
   | exact hallmarkref06_num.mono _ _
   | exact LeO.none _
   | refine LeO.ite ?_ ?_
   | refine LeO.bind ?_ (fun _ => ?_)
theorem hallmarkref06_Func.mono : ∀ a0 a1 k, LeO (hallmarkref06_Func.f k a0 a1) (hallmarkref06_Func.f (k + 1) a0 a1) := by
 intro a0 a1 k
 obtain ⟨ih0, ih1⟩ := hallmarkref06_Func.mono_l k
 unfold hallmarkref06_Func.f
 repeat' first
   | (with_reducible exact ih0 _ _ _ _ _)
   | (with_reducible exact ih1 _ _ _ _ _ _ _ _ _ _ _ _ _ _)
   | (with_reducible exact hallmarkref06_Op.mono _ _ _ _ _ _ _ _ _)
   | (with_reducible exact hallmarkref06_Type.mono _ _)
   | (with_reducible exact hallmarkref06_end.mono _ _ _ _ _ _ _)
   | (with_reducible exact hallmarkref06_list.mono _ _ _)
   | (with_reducible exact hallmarkref06_num.mono _ _)
   | (with_reducible exact LeO.refl _)
   | (with_reducible exact LeO.none _)
   | (with_reducible refine LeO.ite ?_ ?_)
   | (with_reducible refine LeO.bind ?_ (fun _ => ?_))
   | exact ih0 _ _ _ _ _
   | exact ih1 _ _ _ _ _ _ _ _ _ _ _ _ _ _
   | exact hallmarkref06_Op.mono _ _ _ _ _ _ _ _ _
   | exact hallmarkref06_Type.mono _ _
   | exact hallmarkref06_end.mono _ _ _ _ _ _ _
   | exact hallmarkref06_list.mono _ _ _
   | exact hallmarkref06_num.mono _ _
   | exact LeO.none _
   | refine LeO.ite ?_ ?_
   | refine LeO.bind ?_ (fun _ => ?_)
def hallmarkref06_Func.T6 : Bool × List (List Nat × List Nat) := (true, [([], []), ([], []), ([1], [1]), ([0, 2], [0, 2]), ([3], [3]), ([], []), ([5], [5]), ([6, 2], [6]), ([4, 7], [4, 7]), ([8], [8]), ([9, 7, 0, 1, 2, 3, 4, 5, 6, 7, 8, 9], [0, 9])])
def hallmarkref06_Func.B6 : List Nat := [0, 0, 2, 7, 15, 0, 32, 102, 255, 511, 1023]
theorem hallmarkref06_Func.tab6 : rtab .any (opsOf Tryd.f18 6) = hallmarkref06_Func.T6 := by kernel_rfl
theorem hallmarkref06_Func.bits6 : waitsOk hallmarkref06_Func.T6.2 hallmarkref06_Func.B6 = true := by kernel_rfl
def hallmarkref06_Func.T11 : Bool × List (List Nat × List Nat) := (true, [([], []), ([0], [0]), ([], []), ([2], [2]), ([1, 3], [1, 3]), ([4], [4]), ([], []), ([6], [6]), ([], []), ([7, 8], [7, 8]), ([9], [9]), ([10, 3], [10]), ([5, 11], [5, 11]), ([12], [12]), ([13, 11, 0, 1, 2, 3, 4, 5, 6, 7, 8, 9, 10, 11, 12, 13], [0, 13])])
def hallmarkref06_Func.B11 : List Nat := [0, 1, 0, 4, 15, 31, 0, 64, 0, 448, 960, 1996, 4095, 8191, 16383]
theorem hallmarkref06_Func.tab11 : rtab .any (opsOf Tryd.f18 11) = hallmarkref06_Func.T11 := by kernel_rfl
theorem hallmarkref06_Func.bits11 : waitsOk hallmarkref06_Func.T11.2 hallmarkref06_Func.B11 = true := by kernel_rfl
set_option maxHeartbeats 8000000 in
set_option maxRecDepth 100000 in
theorem hallmarkref06_Func.calls (k : Nat) (a0_0 : Int) (A0_1 : Option Addr) (c0_1 : Nat) (l0_1 : List (S59)) (r : ByteArray) (w : World) (hr0_1 : Kd.C k59 w A0_1 l0_1.length l0_1) (hc0_1 : l0_1.length ≤ c0_1) (h : hallmarkref06_Func.f k a0_0 l0_1 = some r) :
  Calls Tryd.prog 18 #[.agg #[.int .i64 a0_0, .slice A0_1 l0_1.length c0_1]] w fun e w' => e = .returned (.string r) ∧ Below w.heap.size w w' := by
 have hu44 := Tryd.underlying44
 have hu59 := Tryd.underlying59
 have hu24 := Tryd.underlying24
 have hu57 := Tryd.underlying57
 have HR0_1 := zm hr0_1
 have HC0_1 := zm hc0_1
 clear hr0_1 hc0_1
 have HB := zm (Below.refl w.heap.size w)
 have H : ((hallmarkref06_Type.f k a0_0).bind fun t212 => (if 5 + t212.size ≤ 9223372036854775807 then (if ((⟨#[102, 117, 110, 99, 32]⟩ : ByteArray) ++ t212).size + 1 ≤ 9223372036854775807 then (hallmarkref06_Func.l0 k (((⟨#[102, 117, 110, 99, 32]⟩ : ByteArray) ++ t212) ++ (⟨#[10]⟩ : ByteArray)) 0 0 a0_0 l0_1) else (none)) else (none))) = some r := h
 clear h
 replace H := Option.bind_eq_some_iff.mp H
 obtain ⟨t212, A20, H⟩ := H
 replace H : (if 5 + t212.size ≤ 9223372036854775807 then (if ((⟨#[102, 117, 110, 99, 32]⟩ : ByteArray) ++ t212).size + 1 ≤ 9223372036854775807 then (hallmarkref06_Func.l0 k (((⟨#[102, 117, 110, 99, 32]⟩ : ByteArray) ++ t212) ++ (⟨#[10]⟩ : ByteArray)) 0 0 a0_0 l0_1) else (none)) else (none)) = some r := H
 have A2 := zm A20
 clear A20
 by_cases c3 : 5 + t212.size ≤ 9223372036854775807
 ·rw [if_pos c3] at H
  have c3b0 := eq_true c3
  have c3b1 : decide (5 + t212.size ≤ 9223372036854775807) = true := decide_eq_true c3
  try have c3b2 : (9223372036854775807 < 5 + t212.size) = False := eq_false (Nat.not_lt.2 c3)
  by_cases c4 : ((⟨#[102, 117, 110, 99, 32]⟩ : ByteArray) ++ t212).size + 1 ≤ 9223372036854775807
  ·rw [if_pos c4] at H
   have c4b0 := eq_true c4
   have c4b1 : decide (((⟨#[102, 117, 110, 99, 32]⟩ : ByteArray) ++ t212).size + 1 ≤ 9223372036854775807) = true := decide_eq_true c4
   have c4n := c4
   simp only [ByteArray.size_append, show (⟨#[102, 117, 110, 99, 32]⟩ : ByteArray).size = 5 from rfl] at c4n
   have c4n0 := eq_true c4n
   have c4n1 := decide_eq_true c4n
   have c4n2 := eq_false (Nat.not_lt.2 c4n)
   clear c4n
   try have c4b2 : (9223372036854775807 < ((⟨#[102, 117, 110, 99, 32]⟩ : ByteArray) ++ t212).size + 1) = False := eq_false (Nat.not_lt.2 c4)
   have H' := zm H
   clear H
   go_enter Tryd.func18, Tryd.ntmps18
   go_wp2_with (first | ((with_reducible refine gate_dst (N := 1) rfl ?_); refine box_event ?hg (N := 1) ?hd (cs := #[.int .i64 a0_0, .slice A0_1 l0_1.length c0_1]) (t := 44) ?hr ?_; (case hd => rfl); (case hg => rfl); (case hr => first | (go_simp; done) | (go_simp; rfl)); intro gb211 hg w5 hbox hb; have n0_ := zm (below_step (by repeat (first | (with_reducible first | exact HB.out | apply below_alloc | apply pw_below_drewN | apply below_drew1) | exact HB.out)) hb); have n1_ := zm (hbox); have n2_ := zm ((by rw [hg]; exact (below_size (by repeat (first | (with_reducible first | exact HB.out | apply below_alloc | apply pw_below_drewN | apply below_drew1) | exact HB.out))) : w.heap.size ≤ gb211)); have n3_ := zm ((by rw [hg]; exact (below_size (by repeat (first | (with_reducible first | exact HB.out | apply below_alloc | apply pw_below_drewN | apply below_drew1) | exact HB.out))) : w.heap.size ≤ gb211)); clear HB; have HB := n0_; have BK211 := n1_; have GW211 := n2_; have GE211 := n3_; clear n0_ n1_ n2_ n3_; clear hb hbox hg; have hcz6_0 : w5.cell? ⟨gb211, 0, none⟩ = some (.int .i64 a0_0) := (blk_cell BK211.out 0).trans rfl; have hcz6_1 : w5.cell? ⟨gb211, 1, none⟩ = some (.slice A0_1 l0_1.length c0_1) := (blk_cell BK211.out 1).trans rfl; have hfz6_0 := blk_frozen BK211.out 0; have hfz6_1 := blk_frozen BK211.out 1) | ((with_reducible refine gate_callee (f := 11) rfl ?_); refine goesL_ (some 10) rfl rfl Tryd.func11 (by kernel_rfl) rfl #[.int .i64 a0_0] rfl (by (try simp only [List.map_toArray, List.map_cons, List.map_nil]); first | done | rfl | (simp only [List.length_drop, List.length_take]; rfl)) ?_; (with_reducible refine (hallmarkref06_Type.calls k a0_0 t212 _ A2.out).mono ?_); rintro e w7 ⟨rfl, hb⟩; refine ⟨_, rfl, ?_⟩; have n0_ := zm (blk_below (g := gb211) (o := .cells #[.int .i64 a0_0, .slice A0_1 l0_1.length c0_1] 44 (0, 0)) (by (with_reducible repeat (first | refine blk_drewN ?_ _ | refine blk_drew ?_ | refine blk_alloc ?_ _)); exact BK211.out) hb); have n1_ := zm (below_step (by repeat (first | (with_reducible first | exact HB.out | apply below_alloc | apply pw_below_drewN | apply below_drew1 | refine below_set ?_ GE211.out) | exact HB.out)) hb); clear BK211; clear HB; have BK211 := n0_; have HB := n1_; clear n0_ n1_; (try clear hb); (try clear hb2); (try clear hk); (try clear hi)))
   go_loopg [3, 4, 5] k (fun kq v3 v4 v5 w' => ∃ (x3_1 : ByteArray) (x4_1 : Int) (x5_1 : Int), v3 = .string x3_1 ∧ v4 = .int .i64 x4_1 ∧ v5 = .int .i64 x5_1 ∧ Aside0 (hallmarkref06_Func.l0 kq x3_1 x4_1 x5_1 a0_0 l0_1 = some r) ∧ Aside0 (kq ≤ k) ∧ Aside0 (w'.heap[gb211]? = some (.cells #[.int .i64 a0_0, (.slice A0_1 l0_1.length c0_1)] 44 (0, 0))) ∧ Aside0 (Below w.heap.size w w'))
   case atStart => exact ⟨(((⟨#[102, 117, 110, 99, 32]⟩ : ByteArray) ++ t212) ++ (⟨#[10]⟩ : ByteArray)), (0), (0), (by first | rfl | (simp; done) | (simp [*]; done) | (simp [*, wrap64]; done) | (simp [*]; unfold wrap64; omega)), (by first | rfl | (simp; done) | (simp [*]; done) | (simp [*, wrap64]; done) | (simp [*]; unfold wrap64; omega)), (by first | rfl | (simp; done) | (simp [*]; done) | (simp [*, wrap64]; done) | (simp [*]; unfold wrap64; omega)), H', ⟨Nat.le_refl _⟩, ⟨by (with_reducible repeat (first | refine blk_drewN ?_ _ | refine blk_drew ?_ | refine blk_alloc ?_ _)); exact BK211.out⟩, ⟨by repeat (first | (with_reducible first | exact HB.out | apply below_alloc | apply pw_below_drewN | apply below_drew1 | refine below_set ?_ GE211.out) | exact HB.out)⟩⟩
   case round =>
    clear H'
    try clear c1
    try clear p2
    try clear c3
    try clear c3b0
    try clear c3b1
    try clear c3b2
    try clear c4
    try clear c4b0
    try clear c4b1
    try clear c4b2
    try clear hcz6_0
    try clear hcz6_1
    try clear hfz6_0
    try clear hfz6_1
    obtain ⟨x3_1, x4_1, x5_1, rfl, rfl, rfl, HA, HK1, BK211, HB⟩ := hrel
    cases gk with
    | zero => exact absurd HA.out (by simp [hallmarkref06_Func.l0])
    | succ k1 =>
     have H := HA.out
     clear HA
     simp only [hallmarkref06_Func.l0] at H
     by_cases c8 : x5_1 < (l0_1.length : Int)
     ·rw [if_pos c8] at H
      have c8b0 : decide (x5_1 < (l0_1.length : Int)) = true := decide_eq_true c8
      clear c8
      by_cases c9 : 0 ≤ x5_1
      ·rw [if_pos c9] at H
       have c9b0 : decide (0 ≤ x5_1) = true := decide_eq_true c9
       clear c9
       replace H := Option.bind_eq_some_iff.mp H
       obtain ⟨t215, A100, H⟩ := H
       replace H : (if x3_1.size + t215.size ≤ 9223372036854775807 then (if (x3_1 ++ t215).size + 1 ≤ 9223372036854775807 then ((hallmarkref06_list.f k1 ((rd_T59 l0_1 x5_1).f0) 0).bind fun t216 => (if ((x3_1 ++ t215) ++ (⟨#[40]⟩ : ByteArray)).size + t216.size ≤ 9223372036854775807 then (if (((x3_1 ++ t215) ++ (⟨#[40]⟩ : ByteArray)) ++ t216).size + 2 ≤ 9223372036854775807 then (hallmarkref06_Func.l1 k1 ((((x3_1 ++ t215) ++ (⟨#[40]⟩ : ByteArray)) ++ t216) ++ (⟨#[41, 10]⟩ : ByteArray)) (wrap64 (x4_1 + (((rd_T59 l0_1 x5_1).f0).length : Int))) x5_1 0 a0_0 l0_1 ((rd_T59 l0_1 x5_1).f0) ((rd_T59 l0_1 x5_1).f1) ((rd_T59 l0_1 x5_1).f2.f0) ((rd_T59 l0_1 x5_1).f2.f1) ((rd_T59 l0_1 x5_1).f2.f2) ((rd_T59 l0_1 x5_1).f2.f3) ((rd_T59 l0_1 x5_1).f2.f4) ((rd_T59 l0_1 x5_1).f2.f5)) else (none)) else (none))) else (none)) else (none)) = some r := H
       have A10 := zm A100
       clear A100
       by_cases c11 : x3_1.size + t215.size ≤ 9223372036854775807
       ·rw [if_pos c11] at H
        have c11b0 := eq_true c11
        have c11b1 : decide (x3_1.size + t215.size ≤ 9223372036854775807) = true := decide_eq_true c11
        try have c11b2 : (9223372036854775807 < x3_1.size + t215.size) = False := eq_false (Nat.not_lt.2 c11)
        by_cases c12 : (x3_1 ++ t215).size + 1 ≤ 9223372036854775807
        ·rw [if_pos c12] at H
         have c12b0 := eq_true c12
         have c12b1 : decide ((x3_1 ++ t215).size + 1 ≤ 9223372036854775807) = true := decide_eq_true c12
         have c12n := c12
         simp only [ByteArray.size_append] at c12n
         have c12n0 := eq_true c12n
         have c12n1 := decide_eq_true c12n
         have c12n2 := eq_false (Nat.not_lt.2 c12n)
         clear c12n
         try have c12b2 : (9223372036854775807 < (x3_1 ++ t215).size + 1) = False := eq_false (Nat.not_lt.2 c12)
         replace H := Option.bind_eq_some_iff.mp H
         obtain ⟨t216, A130, H⟩ := H
         replace H : (if ((x3_1 ++ t215) ++ (⟨#[40]⟩ : ByteArray)).size + t216.size ≤ 9223372036854775807 then (if (((x3_1 ++ t215) ++ (⟨#[40]⟩ : ByteArray)) ++ t216).size + 2 ≤ 9223372036854775807 then (hallmarkref06_Func.l1 k1 ((((x3_1 ++ t215) ++ (⟨#[40]⟩ : ByteArray)) ++ t216) ++ (⟨#[41, 10]⟩ : ByteArray)) (wrap64 (x4_1 + (((rd_T59 l0_1 x5_1).f0).length : Int))) x5_1 0 a0_0 l0_1 ((rd_T59 l0_1 x5_1).f0) ((rd_T59 l0_1 x5_1).f1) ((rd_T59 l0_1 x5_1).f2.f0) ((rd_T59 l0_1 x5_1).f2.f1) ((rd_T59 l0_1 x5_1).f2.f2) ((rd_T59 l0_1 x5_1).f2.f3) ((rd_T59 l0_1 x5_1).f2.f4) ((rd_T59 l0_1 x5_1).f2.f5)) else (none)) else (none)) = some r := H
         have A13 := zm A130
         clear A130
         by_cases c14 : ((x3_1 ++ t215) ++ (⟨#[40]⟩ : ByteArray)).size + t216.size ≤ 9223372036854775807
         ·rw [if_pos c14] at H
          have c14b0 := eq_true c14
          have c14b1 : decide (((x3_1 ++ t215) ++ (⟨#[40]⟩ : ByteArray)).size + t216.size ≤ 9223372036854775807) = true := decide_eq_true c14
          have c14n := c14
          simp only [ByteArray.size_append, show (⟨#[40]⟩ : ByteArray).size = 1 from rfl] at c14n
          have c14n0 := eq_true c14n
          have c14n1 := decide_eq_true c14n
          have c14n2 := eq_false (Nat.not_lt.2 c14n)
          clear c14n
          try have c14b2 : (9223372036854775807 < ((x3_1 ++ t215) ++ (⟨#[40]⟩ : ByteArray)).size + t216.size) = False := eq_false (Nat.not_lt.2 c14)
          by_cases c15 : (((x3_1 ++ t215) ++ (⟨#[40]⟩ : ByteArray)) ++ t216).size + 2 ≤ 9223372036854775807
          ·rw [if_pos c15] at H
           have c15b0 := eq_true c15
           have c15b1 : decide ((((x3_1 ++ t215) ++ (⟨#[40]⟩ : ByteArray)) ++ t216).size + 2 ≤ 9223372036854775807) = true := decide_eq_true c15
           have c15n := c15
           simp only [ByteArray.size_append, show (⟨#[40]⟩ : ByteArray).size = 1 from rfl] at c15n
           have c15n0 := eq_true c15n
           have c15n1 := decide_eq_true c15n
           have c15n2 := eq_false (Nat.not_lt.2 c15n)
           clear c15n
           try have c15b2 : (9223372036854775807 < (((x3_1 ++ t215) ++ (⟨#[40]⟩ : ByteArray)) ++ t216).size + 2) = False := eq_false (Nat.not_lt.2 c15)
           have H' := zm H
           clear H
           have hcz16_0 : wr.cell? ⟨gb211, 0, none⟩ = some (.int .i64 a0_0) := (blk_cell BK211.out 0).trans rfl
           have hcz16_1 : wr.cell? ⟨gb211, 1, none⟩ = some (.slice A0_1 l0_1.length c0_1) := (blk_cell BK211.out 1).trans rfl
           have hfz16_0 := blk_frozen BK211.out 0
           have hfz16_1 := blk_frozen BK211.out 1
           have p213 : 0 ≤ (x5_1 : Int) := of_decide_eq_true (by first | (with_reducible assumption) | assumption)
           have q213 : x5_1 < (l0_1.length : Int) := of_decide_eq_true (by first | (with_reducible assumption) | assumption)
           obtain ⟨ad213, A213_0, c213_0, A213_1, c213_1, A213_6, c213_6, A213_7, c213_7, e213, hx213_0, hx213_1, hx213_2, hx213_3, hx213_4, hx213_5, hx213_6, hx213_7, hl213_0, hi213_0, hl213_1, hi213_1, hl213_6, hi213_6, hl213_7, hi213_7⟩ := at_T59 HR0_1.out x5_1 p213 q213
           cases e213
           replace hx213_0 := (HB.out.cell (World.block_lt_of_cell? w _ hx213_0)).trans hx213_0
           replace hx213_1 := (HB.out.cell (World.block_lt_of_cell? w _ hx213_1)).trans hx213_1
           replace hx213_2 := (HB.out.cell (World.block_lt_of_cell? w _ hx213_2)).trans hx213_2
           replace hx213_3 := (HB.out.cell (World.block_lt_of_cell? w _ hx213_3)).trans hx213_3
           replace hx213_4 := (HB.out.cell (World.block_lt_of_cell? w _ hx213_4)).trans hx213_4
           replace hx213_5 := (HB.out.cell (World.block_lt_of_cell? w _ hx213_5)).trans hx213_5
           replace hx213_6 := (HB.out.cell (World.block_lt_of_cell? w _ hx213_6)).trans hx213_6
           replace hx213_7 := (HB.out.cell (World.block_lt_of_cell? w _ hx213_7)).trans hx213_7
           have HR213_0 := zm hi213_0
           have HC213_0 := zm hl213_0
           clear hi213_0 hl213_0
           have HR213_1 := zm hi213_1
           have HC213_1 := zm hl213_1
           clear hi213_1 hl213_1
           have HR213_6 := zm hi213_6
           have HC213_6 := zm hl213_6
           clear hi213_6 hl213_6
           have HR213_7 := zm hi213_7
           have HC213_7 := zm hl213_7
           clear hi213_7 hl213_7
           replace p213 := eq_true p213
           replace q213 := eq_true q213
           try go_wp2_with (first | ((with_reducible refine gate_dst (N := 6) rfl ?_); refine box_event ?hg (N := 6) ?hd (cs := #[.slice none 0 0, .slice none 0 0, .int .i64 0, .int .i64 0, .int .i64 0, .int .i64 0, .slice none 0 0, .slice none 0 0]) (t := 59) ?hr ?_; (case hd => rfl); (case hg => rfl); (case hr => first | (go_simp; done) | (go_simp; rfl)); intro gb214 hg w17 hbox hb; have n0_ := zm (blk_below (g := gb211) (o := .cells #[.int .i64 a0_0, .slice (some ad213) l0_1.length c0_1] 44 (0, 0)) (by (with_reducible repeat (first | refine blk_drewN ?_ _ | refine blk_drew ?_ | refine blk_alloc ?_ _)); exact BK211.out) hb); have n1_ := zm (below_step (by repeat (first | (with_reducible first | exact HB.out | apply below_alloc | apply pw_below_drewN | apply below_drew1 | refine below_set ?_ GE211.out) | exact HB.out)) hb); have n2_ := zm (hbox); have n3_ := zm ((by rw [hg]; exact (below_size (by repeat (first | (with_reducible first | exact HB.out | apply below_alloc | apply pw_below_drewN | apply below_drew1 | refine below_set ?_ GE211.out) | exact HB.out))) : w.heap.size ≤ gb214)); have n4_ := zm ((by rw [hg]; exact (below_size (by repeat (first | (with_reducible first | exact HB.out | apply below_alloc | apply pw_below_drewN | apply below_drew1 | refine below_set ?_ GE211.out) | exact HB.out))) : w.heap.size ≤ gb214)); have n5_ := zm ((by rw [hg]; exact Nat.ne_of_lt (blk_lt (g := gb211) (o := .cells #[.int .i64 a0_0, .slice (some ad213) l0_1.length c0_1] 44 (0, 0)) (by (with_reducible repeat (first | refine blk_drewN ?_ _ | refine blk_drew ?_ | refine blk_alloc ?_ _)); exact BK211.out)) : gb211 ≠ gb214)); have n6_ := zm ((by rw [hg]; exact Nat.ne_of_gt (blk_lt (g := gb211) (o := .cells #[.int .i64 a0_0, .slice (some ad213) l0_1.length c0_1] 44 (0, 0)) (by (with_reducible repeat (first | refine blk_drewN ?_ _ | refine blk_drew ?_ | refine blk_alloc ?_ _)); exact BK211.out)) : gb214 ≠ gb211)); clear BK211; clear HB; have BK211 := n0_; have HB := n1_; have BK214 := n2_; have GW214 := n3_; have GE214 := n4_; have NB211_214 := n5_; have NB214_211 := n6_; clear n0_ n1_ n2_ n3_ n4_ n5_ n6_; clear hb hbox hg; have hnb18 := NB214_211.out; have hnc18 := NB211_214.out; have hcz19_0 : w17.cell? ⟨gb214, 0, none⟩ = some (.slice none 0 0) := (blk_cell BK214.out 0).trans rfl; have hcz19_1 : w17.cell? ⟨gb214, 1, none⟩ = some (.slice none 0 0) := (blk_cell BK214.out 1).trans rfl; have hcz19_2 : w17.cell? ⟨gb214, 2, none⟩ = some (.int .i64 0) := (blk_cell BK214.out 2).trans rfl; have hcz19_3 : w17.cell? ⟨gb214, 3, none⟩ = some (.int .i64 0) := (blk_cell BK214.out 3).trans rfl; have hcz19_4 : w17.cell? ⟨gb214, 4, none⟩ = some (.int .i64 0) := (blk_cell BK214.out 4).trans rfl; have hcz19_5 : w17.cell? ⟨gb214, 5, none⟩ = some (.int .i64 0) := (blk_cell BK214.out 5).trans rfl; have hcz19_6 : w17.cell? ⟨gb214, 6, none⟩ = some (.slice none 0 0) := (blk_cell BK214.out 6).trans rfl; have hcz19_7 : w17.cell? ⟨gb214, 7, none⟩ = some (.slice none 0 0) := (blk_cell BK214.out 7).trans rfl; have hfz19_0 := blk_frozen BK214.out 0; have hfz19_1 := blk_frozen BK214.out 1; have hfz19_2 := blk_frozen BK214.out 2; have hfz19_3 := blk_frozen BK214.out 3; have hfz19_4 := blk_frozen BK214.out 4; have hfz19_5 := blk_frozen BK214.out 5; have hfz19_6 := blk_frozen BK214.out 6; have hfz19_7 := blk_frozen BK214.out 7))
           have n0_ : Aside0 (((((((((w17.setCell ⟨gb214, 0, none⟩ (.slice A213_0 ((rd_T59 l0_1 x5_1).f0).length c213_0)).setCell ⟨gb214, 1, none⟩ (.slice A213_1 ((rd_T59 l0_1 x5_1).f1).length c213_1)).setCell ⟨gb214, 2, none⟩ (.int .i64 ((rd_T59 l0_1 x5_1).f2.f0))).setCell ⟨gb214, 3, none⟩ (.int .i64 ((rd_T59 l0_1 x5_1).f2.f1))).setCell ⟨gb214, 4, none⟩ (.int .i64 ((rd_T59 l0_1 x5_1).f2.f2))).setCell ⟨gb214, 5, none⟩ (.int .i64 ((rd_T59 l0_1 x5_1).f2.f3))).setCell ⟨gb214, 6, none⟩ (.slice A213_6 ((rd_T59 l0_1 x5_1).f2.f4).length c213_6)).setCell ⟨gb214, 7, none⟩ (.slice A213_7 ((rd_T59 l0_1 x5_1).f2.f5).length c213_7)).heap[gb211]? = some (.cells #[.int .i64 a0_0, .slice (some ad213) l0_1.length c0_1] 44 (0, 0))) := ⟨by (with_reducible repeat (first | refine blk_drewN ?_ _ | refine blk_drew ?_ | refine blk_alloc ?_ _)); refine blk_far ?_ NB211_214.out _; (with_reducible repeat (first | refine blk_drewN ?_ _ | refine blk_drew ?_ | refine blk_alloc ?_ _)); refine blk_far ?_ NB211_214.out _; (with_reducible repeat (first | refine blk_drewN ?_ _ | refine blk_drew ?_ | refine blk_alloc ?_ _)); refine blk_far ?_ NB211_214.out _; (with_reducible repeat (first | refine blk_drewN ?_ _ | refine blk_drew ?_ | refine blk_alloc ?_ _)); refine blk_far ?_ NB211_214.out _; (with_reducible repeat (first | refine blk_drewN ?_ _ | refine blk_drew ?_ | refine blk_alloc ?_ _)); refine blk_far ?_ NB211_214.out _; (with_reducible repeat (first | refine blk_drewN ?_ _ | refine blk_drew ?_ | refine blk_alloc ?_ _)); refine blk_far ?_ NB211_214.out _; (with_reducible repeat (first | refine blk_drewN ?_ _ | refine blk_drew ?_ | refine blk_alloc ?_ _)); refine blk_far ?_ NB211_214.out _; (with_reducible repeat (first | refine blk_drewN ?_ _ | refine blk_drew ?_ | refine blk_alloc ?_ _)); refine blk_far ?_ NB211_214.out _; (with_reducible repeat (first | refine blk_drewN ?_ _ | refine blk_drew ?_ | refine blk_alloc ?_ _)); exact BK211.out⟩
           have n1_ : Aside0 (((((((((w17.setCell ⟨gb214, 0, none⟩ (.slice A213_0 ((rd_T59 l0_1 x5_1).f0).length c213_0)).setCell ⟨gb214, 1, none⟩ (.slice A213_1 ((rd_T59 l0_1 x5_1).f1).length c213_1)).setCell ⟨gb214, 2, none⟩ (.int .i64 ((rd_T59 l0_1 x5_1).f2.f0))).setCell ⟨gb214, 3, none⟩ (.int .i64 ((rd_T59 l0_1 x5_1).f2.f1))).setCell ⟨gb214, 4, none⟩ (.int .i64 ((rd_T59 l0_1 x5_1).f2.f2))).setCell ⟨gb214, 5, none⟩ (.int .i64 ((rd_T59 l0_1 x5_1).f2.f3))).setCell ⟨gb214, 6, none⟩ (.slice A213_6 ((rd_T59 l0_1 x5_1).f2.f4).length c213_6)).setCell ⟨gb214, 7, none⟩ (.slice A213_7 ((rd_T59 l0_1 x5_1).f2.f5).length c213_7)).heap[gb214]? = some (.cells #[.slice A213_0 ((rd_T59 l0_1 x5_1).f0).length c213_0, .slice A213_1 ((rd_T59 l0_1 x5_1).f1).length c213_1, .int .i64 ((rd_T59 l0_1 x5_1).f2.f0), .int .i64 ((rd_T59 l0_1 x5_1).f2.f1), .int .i64 ((rd_T59 l0_1 x5_1).f2.f2), .int .i64 ((rd_T59 l0_1 x5_1).f2.f3), .slice A213_6 ((rd_T59 l0_1 x5_1).f2.f4).length c213_6, .slice A213_7 ((rd_T59 l0_1 x5_1).f2.f5).length c213_7] 59 (0, 0))) := ⟨by (with_reducible repeat (first | refine blk_drewN ?_ _ | refine blk_drew ?_ | refine blk_alloc ?_ _)); refine blk_put (cs := #[.slice A213_0 ((rd_T59 l0_1 x5_1).f0).length c213_0, .slice A213_1 ((rd_T59 l0_1 x5_1).f1).length c213_1, .int .i64 ((rd_T59 l0_1 x5_1).f2.f0), .int .i64 ((rd_T59 l0_1 x5_1).f2.f1), .int .i64 ((rd_T59 l0_1 x5_1).f2.f2), .int .i64 ((rd_T59 l0_1 x5_1).f2.f3), .slice A213_6 ((rd_T59 l0_1 x5_1).f2.f4).length c213_6, .slice none 0 0]) ?_ 7 _ rfl; (with_reducible repeat (first | refine blk_drewN ?_ _ | refine blk_drew ?_ | refine blk_alloc ?_ _)); refine blk_put (cs := #[.slice A213_0 ((rd_T59 l0_1 x5_1).f0).length c213_0, .slice A213_1 ((rd_T59 l0_1 x5_1).f1).length c213_1, .int .i64 ((rd_T59 l0_1 x5_1).f2.f0), .int .i64 ((rd_T59 l0_1 x5_1).f2.f1), .int .i64 ((rd_T59 l0_1 x5_1).f2.f2), .int .i64 ((rd_T59 l0_1 x5_1).f2.f3), .slice none 0 0, .slice none 0 0]) ?_ 6 _ rfl; (with_reducible repeat (first | refine blk_drewN ?_ _ | refine blk_drew ?_ | refine blk_alloc ?_ _)); refine blk_put (cs := #[.slice A213_0 ((rd_T59 l0_1 x5_1).f0).length c213_0, .slice A213_1 ((rd_T59 l0_1 x5_1).f1).length c213_1, .int .i64 ((rd_T59 l0_1 x5_1).f2.f0), .int .i64 ((rd_T59 l0_1 x5_1).f2.f1), .int .i64 ((rd_T59 l0_1 x5_1).f2.f2), .int .i64 0, .slice none 0 0, .slice none 0 0]) ?_ 5 _ rfl; (with_reducible repeat (first | refine blk_drewN ?_ _ | refine blk_drew ?_ | refine blk_alloc ?_ _)); refine blk_put (cs := #[.slice A213_0 ((rd_T59 l0_1 x5_1).f0).length c213_0, .slice A213_1 ((rd_T59 l0_1 x5_1).f1).length c213_1, .int .i64 ((rd_T59 l0_1 x5_1).f2.f0), .int .i64 ((rd_T59 l0_1 x5_1).f2.f1), .int .i64 0, .int .i64 0, .slice none 0 0, .slice none 0 0]) ?_ 4 _ rfl; (with_reducible repeat (first | refine blk_drewN ?_ _ | refine blk_drew ?_ | refine blk_alloc ?_ _)); refine blk_put (cs := #[.slice A213_0 ((rd_T59 l0_1 x5_1).f0).length c213_0, .slice A213_1 ((rd_T59 l0_1 x5_1).f1).length c213_1, .int .i64 ((rd_T59 l0_1 x5_1).f2.f0), .int .i64 0, .int .i64 0, .int .i64 0, .slice none 0 0, .slice none 0 0]) ?_ 3 _ rfl; (with_reducible repeat (first | refine blk_drewN ?_ _ | refine blk_drew ?_ | refine blk_alloc ?_ _)); refine blk_put (cs := #[.slice A213_0 ((rd_T59 l0_1 x5_1).f0).length c213_0, .slice A213_1 ((rd_T59 l0_1 x5_1).f1).length c213_1, .int .i64 0, .int .i64 0, .int .i64 0, .int .i64 0, .slice none 0 0, .slice none 0 0]) ?_ 2 _ rfl; (with_reducible repeat (first | refine blk_drewN ?_ _ | refine blk_drew ?_ | refine blk_alloc ?_ _)); refine blk_put (cs := #[.slice A213_0 ((rd_T59 l0_1 x5_1).f0).length c213_0, .slice none 0 0, .int .i64 0, .int .i64 0, .int .i64 0, .int .i64 0, .slice none 0 0, .slice none 0 0]) ?_ 1 _ rfl; (with_reducible repeat (first | refine blk_drewN ?_ _ | refine blk_drew ?_ | refine blk_alloc ?_ _)); refine blk_put (cs := #[.slice none 0 0, .slice none 0 0, .int .i64 0, .int .i64 0, .int .i64 0, .int .i64 0, .slice none 0 0, .slice none 0 0]) ?_ 0 _ rfl; (with_reducible repeat (first | refine blk_drewN ?_ _ | refine blk_drew ?_ | refine blk_alloc ?_ _)); exact BK214.out⟩
           have n2_ : Aside0 (Below w.heap.size w ((((((((w17.setCell ⟨gb214, 0, none⟩ (.slice A213_0 ((rd_T59 l0_1 x5_1).f0).length c213_0)).setCell ⟨gb214, 1, none⟩ (.slice A213_1 ((rd_T59 l0_1 x5_1).f1).length c213_1)).setCell ⟨gb214, 2, none⟩ (.int .i64 ((rd_T59 l0_1 x5_1).f2.f0))).setCell ⟨gb214, 3, none⟩ (.int .i64 ((rd_T59 l0_1 x5_1).f2.f1))).setCell ⟨gb214, 4, none⟩ (.int .i64 ((rd_T59 l0_1 x5_1).f2.f2))).setCell ⟨gb214, 5, none⟩ (.int .i64 ((rd_T59 l0_1 x5_1).f2.f3))).setCell ⟨gb214, 6, none⟩ (.slice A213_6 ((rd_T59 l0_1 x5_1).f2.f4).length c213_6)).setCell ⟨gb214, 7, none⟩ (.slice A213_7 ((rd_T59 l0_1 x5_1).f2.f5).length c213_7))) := ⟨by repeat (first | (with_reducible first | exact HB.out | apply below_alloc | apply pw_below_drewN | apply below_drew1 | refine below_set ?_ GE211.out | refine below_set ?_ GE214.out) | exact HB.out)⟩
           (try clear BK211)
           (try clear BK214)
           (try clear HB)
           generalize ((((((((w17.setCell ⟨gb214, 0, none⟩ (.slice A213_0 ((rd_T59 l0_1 x5_1).f0).length c213_0)).setCell ⟨gb214, 1, none⟩ (.slice A213_1 ((rd_T59 l0_1 x5_1).f1).length c213_1)).setCell ⟨gb214, 2, none⟩ (.int .i64 ((rd_T59 l0_1 x5_1).f2.f0))).setCell ⟨gb214, 3, none⟩ (.int .i64 ((rd_T59 l0_1 x5_1).f2.f1))).setCell ⟨gb214, 4, none⟩ (.int .i64 ((rd_T59 l0_1 x5_1).f2.f2))).setCell ⟨gb214, 5, none⟩ (.int .i64 ((rd_T59 l0_1 x5_1).f2.f3))).setCell ⟨gb214, 6, none⟩ (.slice A213_6 ((rd_T59 l0_1 x5_1).f2.f4).length c213_6)).setCell ⟨gb214, 7, none⟩ (.slice A213_7 ((rd_T59 l0_1 x5_1).f2.f5).length c213_7)) = w20 at n0_ n1_ n2_ ⊢
           have BK211 := n0_
           have BK214 := n1_
           have HB := n2_
           clear n0_ n1_ n2_
           replace BK211 := zm (blk_drew BK211.out)
           replace BK214 := zm (blk_drew BK214.out)
           replace HB := zm (below_drew1 HB.out)
           refine start_ (n := 11) (S := fun w' => w'.cell? ⟨gb214, 0, none⟩ = some (.slice A213_0 ((rd_T59 l0_1 x5_1).f0).length c213_0) ∧ w'.cell? ⟨gb214, 1, none⟩ = some (.slice A213_1 ((rd_T59 l0_1 x5_1).f1).length c213_1) ∧ w'.cell? ⟨gb214, 2, none⟩ = some (.int .i64 ((rd_T59 l0_1 x5_1).f2.f0)) ∧ w'.cell? ⟨gb214, 3, none⟩ = some (.int .i64 ((rd_T59 l0_1 x5_1).f2.f1)) ∧ w'.cell? ⟨gb214, 4, none⟩ = some (.int .i64 ((rd_T59 l0_1 x5_1).f2.f2)) ∧ w'.cell? ⟨gb214, 5, none⟩ = some (.int .i64 ((rd_T59 l0_1 x5_1).f2.f3)) ∧ w'.cell? ⟨gb214, 6, none⟩ = some (.slice A213_6 ((rd_T59 l0_1 x5_1).f2.f4).length c213_6) ∧ w'.cell? ⟨gb214, 7, none⟩ = some (.slice A213_7 ((rd_T59 l0_1 x5_1).f2.f5).length c213_7)) (ds := []) #[Z,Z,Z,Z,Z,Z,Z,Z,Z,Z,Z] (by kernel_rfl) rfl rfl ⟨(blk_cell BK214.out 0).trans rfl, (blk_cell BK214.out 1).trans rfl, (blk_cell BK214.out 2).trans rfl, (blk_cell BK214.out 3).trans rfl, (blk_cell BK214.out 4).trans rfl, (blk_cell BK214.out 5).trans rfl, (blk_cell BK214.out 6).trans rfl, (blk_cell BK214.out 7).trans rfl⟩ (fun hHeld => ?_); refine with_tabW hallmarkref06_Func.tab6 hallmarkref06_Func.bits6 (fun HT_ HW_ => ?_)
           generalize w20.drew = w21 at BK211 BK214 HB hHeld ⊢
           refine pure_ (i := 0) (N := some 25) (v := ?_) (a' := ?_) #[Y,Z,Z,Z,Z,Z,Z,Z,Z,Z,Z] rfl rfl (any_of HT_.out (by kernel_rfl)) (fun _ _ _ h => h) (Or.inl ⟨by rfl, ?_⟩) ?_ ?_
           rotate_left
           ·intro w'
            go_simp
            with_reducible rfl
           rotate_left
           ·simp only [Act.put, zl1, zl2, zl3, i64_w, i32_w]
            rfl
           refine pure_ (i := 1) (N := some 26) (v := ?_) (a' := ?_) #[Y,Y,Z,Z,Z,Z,Z,Z,Z,Z,Z] rfl rfl (any_of HT_.out (by kernel_rfl)) (fun _ _ _ h => h) (Or.inl ⟨by rfl, ?_⟩) ?_ ?_
           rotate_left
           ·intro w'
            go_simp
            with_reducible rfl
           rotate_left
           ·simp only [Act.put, zl1, zl2, zl3, i64_w, i32_w]
            rfl
           refine pure_ (i := 5) (N := some 30) (v := ?_) (a' := ?_) #[Y,Y,Z,Z,Z,Y,Z,Z,Z,Z,Z] rfl rfl (any_of HT_.out (by kernel_rfl)) (fun _ _ _ h => h) (Or.inl ⟨by rfl, ?_⟩) ?_ ?_
           rotate_left
           ·intro w'
            go_simp
            with_reducible rfl
           rotate_left
           ·simp only [Act.put, zl1, zl2, zl3, i64_w, i32_w]
            rfl
           refine take_ (i := 6) (N := some 31) (v := ?_) (a' := ?_) #[Y,Y,Z,Z,Z,Y,Y,Z,Z,Z,Z] rfl rfl (take_ofW HT_.out HW_.out (by kernel_rfl)) (fun _ _ _ h => h) (Or.inl ⟨by rfl, ?_⟩) hHeld ?_ ?_
           rotate_left
           ·rintro w' ⟨s0, s1, s2, s3, s4, s5, s6, s7⟩
            go_simp
            with_reducible rfl
           rotate_left
           ·simp only [Act.put, zl1, zl2, zl3, i64_w, i32_w]
            rfl
           refine one_ (i := 2) (N := some 27) #[Y,Y,Y,Z,Z,Y,Y,Z,Z,Z,Z] rfl rfl (one_of HT_.out (by kernel_rfl)) (by decide) (fun K hK => ?_)
           refine goes_ Tryd.func24 (by kernel_rfl) rfl #[.int .i64 x5_1] (by rfl) rfl rfl (by (try simp only [List.map_toArray, List.map_cons, List.map_nil]); first | done | rfl | (simp only [List.length_drop, List.length_take]; rfl)) ?_
           with_reducible refine (hallmarkref06_num.calls k1 x5_1 t215 _ A10.out).mono ?_
           rintro e w22 ⟨rfl, hb⟩
           refine ⟨_, rfl, ?_⟩
           replace BK211 := zm (blk_below (g := gb211) (o := .cells #[.int .i64 a0_0, .slice (some ad213) l0_1.length c0_1] 44 (0, 0)) BK211.out hb)
           replace BK214 := zm (blk_below (g := gb214) (o := .cells #[.slice A213_0 ((rd_T59 l0_1 x5_1).f0).length c213_0, .slice A213_1 ((rd_T59 l0_1 x5_1).f1).length c213_1, .int .i64 ((rd_T59 l0_1 x5_1).f2.f0), .int .i64 ((rd_T59 l0_1 x5_1).f2.f1), .int .i64 ((rd_T59 l0_1 x5_1).f2.f2), .int .i64 ((rd_T59 l0_1 x5_1).f2.f3), .slice A213_6 ((rd_T59 l0_1 x5_1).f2.f4).length c213_6, .slice A213_7 ((rd_T59 l0_1 x5_1).f2.f5).length c213_7] 59 (0, 0)) BK214.out hb)
           replace HB := zm (below_step (by repeat (first | (with_reducible first | exact HB.out | apply below_alloc | apply pw_below_drewN | apply below_drew1 | refine below_set ?_ GE211.out | refine below_set ?_ GE214.out) | exact HB.out)) hb)
           (try clear hb)
           (try clear hb2)
           (try clear hk)
           (try clear hi)
           refine hK.out _ _ ⟨(blk_cell BK214.out 0).trans rfl, (blk_cell BK214.out 1).trans rfl, (blk_cell BK214.out 2).trans rfl, (blk_cell BK214.out 3).trans rfl, (blk_cell BK214.out 4).trans rfl, (blk_cell BK214.out 5).trans rfl, (blk_cell BK214.out 6).trans rfl, (blk_cell BK214.out 7).trans rfl⟩ (fun hHeld => ?_)
           clear hK K
           refine norm_ (a' := ?_) ?_ ?_
           rotate_left
           ·show Act.put _ (some 27) _ = _
            simp only [Act.put, zl1, zl2, zl3, i64_w, i32_w]
            rfl
           refine pure_ (i := 3) (N := some 28) (v := ?_) (a' := ?_) #[Y,Y,Y,Y,Z,Y,Y,Z,Z,Z,Z] rfl rfl (any_of HT_.out (by kernel_rfl)) (fun _ _ _ h => h) (Or.inl ⟨by rfl, ?_⟩) ?_ ?_
           rotate_left
           ·intro w'
            go_simp
            with_reducible rfl
           rotate_left
           ·simp only [Act.put, zl1, zl2, zl3, i64_w, i32_w]
            rfl
           refine pure_ (i := 4) (N := some 29) (v := ?_) (a' := ?_) #[Y,Y,Y,Y,Y,Y,Y,Z,Z,Z,Z] rfl rfl (any_of HT_.out (by kernel_rfl)) (fun _ _ _ h => h) (Or.inl ⟨by rfl, ?_⟩) ?_ ?_
           rotate_left
           ·intro w'
            go_simp
            with_reducible rfl
           rotate_left
           ·simp only [Act.put, zl1, zl2, zl3, i64_w, i32_w]
            rfl
           refine one_ (i := 7) (N := some 32) #[Y,Y,Y,Y,Y,Y,Y,Y,Z,Z,Z] rfl rfl (one_of HT_.out (by kernel_rfl)) (by decide) (fun K hK => ?_)
           refine goes_ Tryd.func25 (by kernel_rfl) rfl #[.slice A213_0 ((rd_T59 l0_1 x5_1).f0).length c213_0, .int .i64 0] (by rfl) rfl rfl (by (try simp only [List.map_toArray, List.map_cons, List.map_nil]); first | done | rfl | (simp only [List.length_drop, List.length_take]; rfl)) ?_
           with_reducible refine (hallmarkref06_list.calls k1 _ _ ((rd_T59 l0_1 x5_1).f0) 0 t216 _ ?side1 ?side2 A13.out).mono ?_
           (case side1 => repeat (first | exact (Kd.C_below HR213_0.out HB.out) | (with_reducible refine Kd.C_alloc ?_ _) | (with_reducible refine Kd.C_drewN ?_ _) | (with_reducible refine Kd.C_drew ?_)))
           (case side2 => exact HC213_0.out)
           rintro e w23 ⟨rfl, hb⟩
           refine ⟨_, rfl, ?_⟩
           replace BK211 := zm (blk_below (g := gb211) (o := .cells #[.int .i64 a0_0, .slice (some ad213) l0_1.length c0_1] 44 (0, 0)) BK211.out hb)
           replace BK214 := zm (blk_below (g := gb214) (o := .cells #[.slice A213_0 ((rd_T59 l0_1 x5_1).f0).length c213_0, .slice A213_1 ((rd_T59 l0_1 x5_1).f1).length c213_1, .int .i64 ((rd_T59 l0_1 x5_1).f2.f0), .int .i64 ((rd_T59 l0_1 x5_1).f2.f1), .int .i64 ((rd_T59 l0_1 x5_1).f2.f2), .int .i64 ((rd_T59 l0_1 x5_1).f2.f3), .slice A213_6 ((rd_T59 l0_1 x5_1).f2.f4).length c213_6, .slice A213_7 ((rd_T59 l0_1 x5_1).f2.f5).length c213_7] 59 (0, 0)) BK214.out hb)
           replace HB := zm (below_step (by repeat (first | (with_reducible first | exact HB.out | apply below_alloc | apply pw_below_drewN | apply below_drew1 | refine below_set ?_ GE211.out | refine below_set ?_ GE214.out) | exact HB.out)) hb)
           (try clear hb)
           (try clear hb2)
           (try clear hk)
           (try clear hi)
           refine hK.out _ _ ⟨(blk_cell BK214.out 0).trans rfl, (blk_cell BK214.out 1).trans rfl, (blk_cell BK214.out 2).trans rfl, (blk_cell BK214.out 3).trans rfl, (blk_cell BK214.out 4).trans rfl, (blk_cell BK214.out 5).trans rfl, (blk_cell BK214.out 6).trans rfl, (blk_cell BK214.out 7).trans rfl⟩ (fun hHeld => ?_)
           clear hK K
           refine norm_ (a' := ?_) ?_ ?_
           rotate_left
           ·show Act.put _ (some 32) _ = _
            simp only [Act.put, zl1, zl2, zl3, i64_w, i32_w]
            rfl
           refine pure_ (i := 8) (N := some 33) (v := ?_) (a' := ?_) #[Y,Y,Y,Y,Y,Y,Y,Y,Y,Z,Z] rfl rfl (any_of HT_.out (by kernel_rfl)) (fun _ _ _ h => h) (Or.inl ⟨by rfl, ?_⟩) ?_ ?_
           rotate_left
           ·intro w'
            go_simp
            with_reducible rfl
           rotate_left
           ·simp only [Act.put, zl1, zl2, zl3, i64_w, i32_w]
            rfl
           refine pure_ (i := 9) (N := some 34) (v := ?_) (a' := ?_) #[Y,Y,Y,Y,Y,Y,Y,Y,Y,Y,Z] rfl rfl (any_of HT_.out (by kernel_rfl)) (fun _ _ _ h => h) (Or.inl ⟨by rfl, ?_⟩) ?_ ?_
           rotate_left
           ·intro w'
            go_simp
            with_reducible rfl
           rotate_left
           ·simp only [Act.put, zl1, zl2, zl3, i64_w, i32_w]
            rfl
           refine pure_ (i := 10) (N := some 3) (v := ?_) (a' := ?_) #[Y,Y,Y,Y,Y,Y,Y,Y,Y,Y,Y] rfl rfl (any_of HT_.out (by kernel_rfl)) (fun _ _ _ h => h) (Or.inl ⟨by rfl, ?_⟩) ?_ ?_
           rotate_left
           ·intro w'
            go_simp
            with_reducible rfl
           rotate_left
           ·simp only [Act.put, zl1, zl2, zl3, i64_w, i32_w]
            rfl
           refine done_ (done_of HT_.out (by kernel_rfl)) ?_
           have hcz24_0 : w23.cell? ⟨gb214, 0, none⟩ = some (.slice A213_0 ((rd_T59 l0_1 x5_1).f0).length c213_0) := (blk_cell BK214.out 0).trans rfl
           have hcz24_1 : w23.cell? ⟨gb214, 1, none⟩ = some (.slice A213_1 ((rd_T59 l0_1 x5_1).f1).length c213_1) := (blk_cell BK214.out 1).trans rfl
           have hcz24_2 : w23.cell? ⟨gb214, 2, none⟩ = some (.int .i64 ((rd_T59 l0_1 x5_1).f2.f0)) := (blk_cell BK214.out 2).trans rfl
           have hcz24_3 : w23.cell? ⟨gb214, 3, none⟩ = some (.int .i64 ((rd_T59 l0_1 x5_1).f2.f1)) := (blk_cell BK214.out 3).trans rfl
           have hcz24_4 : w23.cell? ⟨gb214, 4, none⟩ = some (.int .i64 ((rd_T59 l0_1 x5_1).f2.f2)) := (blk_cell BK214.out 4).trans rfl
           have hcz24_5 : w23.cell? ⟨gb214, 5, none⟩ = some (.int .i64 ((rd_T59 l0_1 x5_1).f2.f3)) := (blk_cell BK214.out 5).trans rfl
           have hcz24_6 : w23.cell? ⟨gb214, 6, none⟩ = some (.slice A213_6 ((rd_T59 l0_1 x5_1).f2.f4).length c213_6) := (blk_cell BK214.out 6).trans rfl
           have hcz24_7 : w23.cell? ⟨gb214, 7, none⟩ = some (.slice A213_7 ((rd_T59 l0_1 x5_1).f2.f5).length c213_7) := (blk_cell BK214.out 7).trans rfl
           have hfz24_0 := blk_frozen BK214.out 0
           have hfz24_1 := blk_frozen BK214.out 1
           have hfz24_2 := blk_frozen BK214.out 2
           have hfz24_3 := blk_frozen BK214.out 3
           have hfz24_4 := blk_frozen BK214.out 4
           have hfz24_5 := blk_frozen BK214.out 5
           have hfz24_6 := blk_frozen BK214.out 6
           have hfz24_7 := blk_frozen BK214.out 7
           try go_wp2
           go_loopg [3, 4, 7] k1 (fun kq v3 v4 v7 w' => ∃ (x3_2 : ByteArray) (x4_2 : Int) (x7_2 : Int), v3 = .string x3_2 ∧ v4 = .int .i64 x4_2 ∧ v7 = .int .i64 x7_2 ∧ Aside0 (hallmarkref06_Func.l1 kq x3_2 x4_2 x5_1 x7_2 a0_0 l0_1 ((rd_T59 l0_1 x5_1).f0) ((rd_T59 l0_1 x5_1).f1) ((rd_T59 l0_1 x5_1).f2.f0) ((rd_T59 l0_1 x5_1).f2.f1) ((rd_T59 l0_1 x5_1).f2.f2) ((rd_T59 l0_1 x5_1).f2.f3) ((rd_T59 l0_1 x5_1).f2.f4) ((rd_T59 l0_1 x5_1).f2.f5) = some r) ∧ Aside0 (kq ≤ k1) ∧ Aside0 (w'.heap[gb211]? = some (.cells #[.int .i64 a0_0, (.slice (some ad213) l0_1.length c0_1)] 44 (0, 0))) ∧ Aside0 (w'.heap[gb214]? = some (.cells #[(.slice A213_0 ((rd_T59 l0_1 x5_1).f0).length c213_0), (.slice A213_1 ((rd_T59 l0_1 x5_1).f1).length c213_1), .int .i64 ((rd_T59 l0_1 x5_1).f2.f0), .int .i64 ((rd_T59 l0_1 x5_1).f2.f1), .int .i64 ((rd_T59 l0_1 x5_1).f2.f2), .int .i64 ((rd_T59 l0_1 x5_1).f2.f3), (.slice A213_6 ((rd_T59 l0_1 x5_1).f2.f4).length c213_6), (.slice A213_7 ((rd_T59 l0_1 x5_1).f2.f5).length c213_7)] 59 (0, 0))) ∧ Aside0 (Below w.heap.size w w'))
           case atStart => exact ⟨((((x3_1 ++ t215) ++ (⟨#[40]⟩ : ByteArray)) ++ t216) ++ (⟨#[41, 10]⟩ : ByteArray)), (wrap64 (x4_1 + (((rd_T59 l0_1 x5_1).f0).length : Int))), (0), (by first | rfl | (simp; done) | (simp [*]; done) | (simp [*, wrap64]; done) | (simp [*]; unfold wrap64; omega)), (by first | rfl | (simp; done) | (simp [*]; done) | (simp [*, wrap64]; done) | (simp [*]; unfold wrap64; omega)), (by first | rfl | (simp; done) | (simp [*]; done) | (simp [*, wrap64]; done) | (simp [*]; unfold wrap64; omega)), H', ⟨Nat.le_refl _⟩, ⟨by (with_reducible repeat (first | refine blk_drewN ?_ _ | refine blk_drew ?_ | refine blk_alloc ?_ _)); exact BK211.out⟩, ⟨by (with_reducible repeat (first | refine blk_drewN ?_ _ | refine blk_drew ?_ | refine blk_alloc ?_ _)); exact BK214.out⟩, ⟨by repeat (first | (with_reducible first | exact HB.out | apply below_alloc | apply pw_below_drewN | apply below_drew1 | refine below_set ?_ GE211.out | refine below_set ?_ GE214.out) | exact HB.out)⟩⟩
           case round =>
            clear H'
            try clear c1
            try clear c2
            try clear p2
            try clear q2
            try clear hx2
            try clear c3
            try clear c3b0
            try clear c3b1
            try clear c3b2
            try clear c4
            try clear c4b0
            try clear c4b1
            try clear c4b2
            try clear p6
            try clear c8
            try clear c8b0
            try clear c9
            try clear c9b0
            try clear c11
            try clear c11b0
            try clear c11b1
            try clear c11b2
            try clear c12
            try clear c12b0
            try clear c12b1
            try clear c12b2
            try clear c14
            try clear c14b0
            try clear c14b1
            try clear c14b2
            try clear c15
            try clear c15b0
            try clear c15b1
            try clear c15b2
            try clear c18
            try clear c21
            try clear p21
            try clear q21
            try clear hx21
            try clear c24
            try clear hcz16_0
            try clear hcz16_1
            try clear hcz19_0
            try clear hcz19_1
            try clear hcz19_2
            try clear hcz19_3
            try clear hcz19_4
            try clear hcz19_5
            try clear hcz19_6
            try clear hcz19_7
            try clear hcz24_0
            try clear hcz24_1
            try clear hcz24_2
            try clear hcz24_3
            try clear hcz24_4
            try clear hcz24_5
            try clear hcz24_6
            try clear hcz24_7
            try clear hcz6_0
            try clear hcz6_1
            try clear hfz16_0
            try clear hfz16_1
            try clear hfz19_0
            try clear hfz19_1
            try clear hfz19_2
            try clear hfz19_3
            try clear hfz19_4
            try clear hfz19_5
            try clear hfz19_6
            try clear hfz19_7
            try clear hfz24_0
            try clear hfz24_1
            try clear hfz24_2
            try clear hfz24_3
            try clear hfz24_4
            try clear hfz24_5
            try clear hfz24_6
            try clear hfz24_7
            try clear hfz6_0
            try clear hfz6_1
            try clear hx213_0
            try clear hx213_1
            try clear hx213_2
            try clear hx213_3
            try clear hx213_4
            try clear hx213_5
            try clear hx213_6
            try clear hx213_7
            try clear p2
            try clear p213
            try clear q213
            obtain ⟨x3_2, x4_2, x7_2, rfl, rfl, rfl, HA, HK2, BK211, BK214, HB⟩ := hrel
            cases gk with
            | zero => exact absurd HA.out (by simp [hallmarkref06_Func.l1])
            | succ k2 =>
             have H := HA.out
             clear HA
             simp only [hallmarkref06_Func.l1] at H
             by_cases c25 : x7_2 < (((rd_T59 l0_1 x5_1).f1).length : Int)
             ·rw [if_pos c25] at H
              have c25b0 : decide (x7_2 < (((rd_T59 l0_1 x5_1).f1).length : Int)) = true := decide_eq_true c25
              clear c25
              by_cases c26 : x3_2.size + 3 ≤ 9223372036854775807
              ·rw [if_pos c26] at H
               have c26b0 := eq_true c26
               have c26b1 : decide (x3_2.size + 3 ≤ 9223372036854775807) = true := decide_eq_true c26
               try have c26b2 : (9223372036854775807 < x3_2.size + 3) = False := eq_false (Nat.not_lt.2 c26)
               replace H := Option.bind_eq_some_iff.mp H
               obtain ⟨t217, A270, H⟩ := H
               replace H : (if (x3_2 ++ (⟨#[32, 32, 118]⟩ : ByteArray)).size + t217.size ≤ 9223372036854775807 then (if ((x3_2 ++ (⟨#[32, 32, 118]⟩ : ByteArray)) ++ t217).size + 3 ≤ 9223372036854775807 then (if 0 ≤ x7_2 then ((hallmarkref06_Op.f k2 ((rd_T24 ((rd_T59 l0_1 x5_1).f1) x7_2).f0) ((rd_T24 ((rd_T59 l0_1 x5_1).f1) x7_2).f1) ((rd_T24 ((rd_T59 l0_1 x5_1).f1) x7_2).f2) ((rd_T24 ((rd_T59 l0_1 x5_1).f1) x7_2).f3) ((rd_T24 ((rd_T59 l0_1 x5_1).f1) x7_2).f4) ((rd_T24 ((rd_T59 l0_1 x5_1).f1) x7_2).f5) ((rd_T24 ((rd_T59 l0_1 x5_1).f1) x7_2).f6) ((rd_T24 ((rd_T59 l0_1 x5_1).f1) x7_2).f7)).bind fun t219 => (if (((x3_2 ++ (⟨#[32, 32, 118]⟩ : ByteArray)) ++ t217) ++ (⟨#[32, 61, 32]⟩ : ByteArray)).size + t219.size ≤ 9223372036854775807 then (if ((((x3_2 ++ (⟨#[32, 32, 118]⟩ : ByteArray)) ++ t217) ++ (⟨#[32, 61, 32]⟩ : ByteArray)) ++ t219).size + 1 ≤ 9223372036854775807 then (hallmarkref06_Func.l1 k2 (((((x3_2 ++ (⟨#[32, 32, 118]⟩ : ByteArray)) ++ t217) ++ (⟨#[32, 61, 32]⟩ : ByteArray)) ++ t219) ++ (⟨#[10]⟩ : ByteArray)) (wrap64 (x4_2 + 1)) x5_1 (wrap64 (x7_2 + 1)) a0_0 l0_1 ((rd_T59 l0_1 x5_1).f0) ((rd_T59 l0_1 x5_1).f1) ((rd_T59 l0_1 x5_1).f2.f0) ((rd_T59 l0_1 x5_1).f2.f1) ((rd_T59 l0_1 x5_1).f2.f2) ((rd_T59 l0_1 x5_1).f2.f3) ((rd_T59 l0_1 x5_1).f2.f4) ((rd_T59 l0_1 x5_1).f2.f5)) else (none)) else (none))) else (none)) else (none)) else (none)) = some r := H
               have A27 := zm A270
               clear A270
               by_cases c28 : (x3_2 ++ (⟨#[32, 32, 118]⟩ : ByteArray)).size + t217.size ≤ 9223372036854775807
               ·rw [if_pos c28] at H
                have c28b0 := eq_true c28
                have c28b1 : decide ((x3_2 ++ (⟨#[32, 32, 118]⟩ : ByteArray)).size + t217.size ≤ 9223372036854775807) = true := decide_eq_true c28
                have c28n := c28
                simp only [ByteArray.size_append, show (⟨#[32, 32, 118]⟩ : ByteArray).size = 3 from rfl] at c28n
                have c28n0 := eq_true c28n
                have c28n1 := decide_eq_true c28n
                have c28n2 := eq_false (Nat.not_lt.2 c28n)
                clear c28n
                try have c28b2 : (9223372036854775807 < (x3_2 ++ (⟨#[32, 32, 118]⟩ : ByteArray)).size + t217.size) = False := eq_false (Nat.not_lt.2 c28)
                by_cases c29 : ((x3_2 ++ (⟨#[32, 32, 118]⟩ : ByteArray)) ++ t217).size + 3 ≤ 9223372036854775807
                ·rw [if_pos c29] at H
                 have c29b0 := eq_true c29
                 have c29b1 : decide (((x3_2 ++ (⟨#[32, 32, 118]⟩ : ByteArray)) ++ t217).size + 3 ≤ 9223372036854775807) = true := decide_eq_true c29
                 have c29n := c29
                 simp only [ByteArray.size_append, show (⟨#[32, 32, 118]⟩ : ByteArray).size = 3 from rfl] at c29n
                 have c29n0 := eq_true c29n
                 have c29n1 := decide_eq_true c29n
                 have c29n2 := eq_false (Nat.not_lt.2 c29n)
                 clear c29n
                 try have c29b2 : (9223372036854775807 < ((x3_2 ++ (⟨#[32, 32, 118]⟩ : ByteArray)) ++ t217).size + 3) = False := eq_false (Nat.not_lt.2 c29)
                 by_cases c30 : 0 ≤ x7_2
                 ·rw [if_pos c30] at H
                  have c30b0 : decide (0 ≤ x7_2) = true := decide_eq_true c30
                  clear c30
                  replace H := Option.bind_eq_some_iff.mp H
                  obtain ⟨t219, A310, H⟩ := H
                  replace H : (if (((x3_2 ++ (⟨#[32, 32, 118]⟩ : ByteArray)) ++ t217) ++ (⟨#[32, 61, 32]⟩ : ByteArray)).size + t219.size ≤ 9223372036854775807 then (if ((((x3_2 ++ (⟨#[32, 32, 118]⟩ : ByteArray)) ++ t217) ++ (⟨#[32, 61, 32]⟩ : ByteArray)) ++ t219).size + 1 ≤ 9223372036854775807 then (hallmarkref06_Func.l1 k2 (((((x3_2 ++ (⟨#[32, 32, 118]⟩ : ByteArray)) ++ t217) ++ (⟨#[32, 61, 32]⟩ : ByteArray)) ++ t219) ++ (⟨#[10]⟩ : ByteArray)) (wrap64 (x4_2 + 1)) x5_1 (wrap64 (x7_2 + 1)) a0_0 l0_1 ((rd_T59 l0_1 x5_1).f0) ((rd_T59 l0_1 x5_1).f1) ((rd_T59 l0_1 x5_1).f2.f0) ((rd_T59 l0_1 x5_1).f2.f1) ((rd_T59 l0_1 x5_1).f2.f2) ((rd_T59 l0_1 x5_1).f2.f3) ((rd_T59 l0_1 x5_1).f2.f4) ((rd_T59 l0_1 x5_1).f2.f5)) else (none)) else (none)) = some r := H
                  have A31 := zm A310
                  clear A310
                  by_cases c32 : (((x3_2 ++ (⟨#[32, 32, 118]⟩ : ByteArray)) ++ t217) ++ (⟨#[32, 61, 32]⟩ : ByteArray)).size + t219.size ≤ 9223372036854775807
                  ·rw [if_pos c32] at H
                   have c32b0 := eq_true c32
                   have c32b1 : decide ((((x3_2 ++ (⟨#[32, 32, 118]⟩ : ByteArray)) ++ t217) ++ (⟨#[32, 61, 32]⟩ : ByteArray)).size + t219.size ≤ 9223372036854775807) = true := decide_eq_true c32
                   have c32n := c32
                   simp only [ByteArray.size_append, show (⟨#[32, 32, 118]⟩ : ByteArray).size = 3 from rfl, show (⟨#[32, 61, 32]⟩ : ByteArray).size = 3 from rfl] at c32n
                   have c32n0 := eq_true c32n
                   have c32n1 := decide_eq_true c32n
                   have c32n2 := eq_false (Nat.not_lt.2 c32n)
                   clear c32n
                   try have c32b2 : (9223372036854775807 < (((x3_2 ++ (⟨#[32, 32, 118]⟩ : ByteArray)) ++ t217) ++ (⟨#[32, 61, 32]⟩ : ByteArray)).size + t219.size) = False := eq_false (Nat.not_lt.2 c32)
                   by_cases c33 : ((((x3_2 ++ (⟨#[32, 32, 118]⟩ : ByteArray)) ++ t217) ++ (⟨#[32, 61, 32]⟩ : ByteArray)) ++ t219).size + 1 ≤ 9223372036854775807
                   ·rw [if_pos c33] at H
                    have c33b0 := eq_true c33
                    have c33b1 : decide (((((x3_2 ++ (⟨#[32, 32, 118]⟩ : ByteArray)) ++ t217) ++ (⟨#[32, 61, 32]⟩ : ByteArray)) ++ t219).size + 1 ≤ 9223372036854775807) = true := decide_eq_true c33
                    have c33n := c33
                    simp only [ByteArray.size_append, show (⟨#[32, 32, 118]⟩ : ByteArray).size = 3 from rfl, show (⟨#[32, 61, 32]⟩ : ByteArray).size = 3 from rfl] at c33n
                    have c33n0 := eq_true c33n
                    have c33n1 := decide_eq_true c33n
                    have c33n2 := eq_false (Nat.not_lt.2 c33n)
                    clear c33n
                    try have c33b2 : (9223372036854775807 < ((((x3_2 ++ (⟨#[32, 32, 118]⟩ : ByteArray)) ++ t217) ++ (⟨#[32, 61, 32]⟩ : ByteArray)) ++ t219).size + 1) = False := eq_false (Nat.not_lt.2 c33)
                    have H' := zm H
                    clear H
                    have hnb34 := NB214_211.out
                    have hnc34 := NB211_214.out
                    have hcz35_0 : wr.cell? ⟨gb214, 0, none⟩ = some (.slice A213_0 ((rd_T59 l0_1 x5_1).f0).length c213_0) := (blk_cell BK214.out 0).trans rfl
                    have hcz35_1 : wr.cell? ⟨gb214, 1, none⟩ = some (.slice A213_1 ((rd_T59 l0_1 x5_1).f1).length c213_1) := (blk_cell BK214.out 1).trans rfl
                    have hcz35_2 : wr.cell? ⟨gb214, 2, none⟩ = some (.int .i64 ((rd_T59 l0_1 x5_1).f2.f0)) := (blk_cell BK214.out 2).trans rfl
                    have hcz35_3 : wr.cell? ⟨gb214, 3, none⟩ = some (.int .i64 ((rd_T59 l0_1 x5_1).f2.f1)) := (blk_cell BK214.out 3).trans rfl
                    have hcz35_4 : wr.cell? ⟨gb214, 4, none⟩ = some (.int .i64 ((rd_T59 l0_1 x5_1).f2.f2)) := (blk_cell BK214.out 4).trans rfl
                    have hcz35_5 : wr.cell? ⟨gb214, 5, none⟩ = some (.int .i64 ((rd_T59 l0_1 x5_1).f2.f3)) := (blk_cell BK214.out 5).trans rfl
                    have hcz35_6 : wr.cell? ⟨gb214, 6, none⟩ = some (.slice A213_6 ((rd_T59 l0_1 x5_1).f2.f4).length c213_6) := (blk_cell BK214.out 6).trans rfl
                    have hcz35_7 : wr.cell? ⟨gb214, 7, none⟩ = some (.slice A213_7 ((rd_T59 l0_1 x5_1).f2.f5).length c213_7) := (blk_cell BK214.out 7).trans rfl
                    have hfz35_0 := blk_frozen BK214.out 0
                    have hfz35_1 := blk_frozen BK214.out 1
                    have hfz35_2 := blk_frozen BK214.out 2
                    have hfz35_3 := blk_frozen BK214.out 3
                    have hfz35_4 := blk_frozen BK214.out 4
                    have hfz35_5 := blk_frozen BK214.out 5
                    have hfz35_6 := blk_frozen BK214.out 6
                    have hfz35_7 := blk_frozen BK214.out 7
                    try go_wp2
                    replace BK211 := zm (blk_drew BK211.out)
                    replace BK214 := zm (blk_drew BK214.out)
                    replace HB := zm (below_drew1 HB.out)
                    have p218 : 0 ≤ (x7_2 : Int) := of_decide_eq_true (by first | (with_reducible assumption) | assumption)
                    have q218 : x7_2 < (((rd_T59 l0_1 x5_1).f1).length : Int) := of_decide_eq_true (by first | (with_reducible assumption) | assumption)
                    obtain ⟨ad218, A218_6, c218_6, e218, hx218_0, hx218_1, hx218_2, hx218_3, hx218_4, hx218_5, hx218_6, hx218_7, hl218_6, hi218_6⟩ := at_T24 HR213_1.out x7_2 p218 q218
                    have hw218_7 := hx218_7
                    have hw218_6 := hx218_6
                    have hw218_5 := hx218_5
                    have hw218_4 := hx218_4
                    have hw218_3 := hx218_3
                    have hw218_2 := hx218_2
                    have hw218_1 := hx218_1
                    have hw218_0 := hx218_0
                    cases e218
                    replace hx218_0 := (HB.out.cell (World.block_lt_of_cell? w _ hx218_0)).trans hx218_0
                    replace hx218_1 := (HB.out.cell (World.block_lt_of_cell? w _ hx218_1)).trans hx218_1
                    replace hx218_2 := (HB.out.cell (World.block_lt_of_cell? w _ hx218_2)).trans hx218_2
                    replace hx218_3 := (HB.out.cell (World.block_lt_of_cell? w _ hx218_3)).trans hx218_3
                    replace hx218_4 := (HB.out.cell (World.block_lt_of_cell? w _ hx218_4)).trans hx218_4
                    replace hx218_5 := (HB.out.cell (World.block_lt_of_cell? w _ hx218_5)).trans hx218_5
                    replace hx218_6 := (HB.out.cell (World.block_lt_of_cell? w _ hx218_6)).trans hx218_6
                    replace hx218_7 := (HB.out.cell (World.block_lt_of_cell? w _ hx218_7)).trans hx218_7
                    have HR218_6 := zm hi218_6
                    have HC218_6 := zm hl218_6
                    clear hi218_6 hl218_6
                    replace p218 := eq_true p218
                    replace q218 := eq_true q218
                    refine start_ (n := 15) (S := fun w' => w'.cell? ⟨gb214, 0, none⟩ = some (.slice A213_0 ((rd_T59 l0_1 x5_1).f0).length c213_0) ∧ w'.cell? ⟨gb214, 1, none⟩ = some (.slice (some ad218) ((rd_T59 l0_1 x5_1).f1).length c213_1) ∧ w'.cell? ⟨gb214, 2, none⟩ = some (.int .i64 ((rd_T59 l0_1 x5_1).f2.f0)) ∧ w'.cell? ⟨gb214, 3, none⟩ = some (.int .i64 ((rd_T59 l0_1 x5_1).f2.f1)) ∧ w'.cell? ⟨gb214, 4, none⟩ = some (.int .i64 ((rd_T59 l0_1 x5_1).f2.f2)) ∧ w'.cell? ⟨gb214, 5, none⟩ = some (.int .i64 ((rd_T59 l0_1 x5_1).f2.f3)) ∧ w'.cell? ⟨gb214, 6, none⟩ = some (.slice A213_6 ((rd_T59 l0_1 x5_1).f2.f4).length c213_6) ∧ w'.cell? ⟨gb214, 7, none⟩ = some (.slice A213_7 ((rd_T59 l0_1 x5_1).f2.f5).length c213_7) ∧ w'.cell? (ad218.add ((x7_2).toNat * 8)) = some (.int .i64 ((rd_T24 ((rd_T59 l0_1 x5_1).f1) x7_2).f0)) ∧ w'.cell? ⟨(ad218.add ((x7_2).toNat * 8)).block, (ad218.add ((x7_2).toNat * 8)).off + 1, none⟩ = some (.int .i64 ((rd_T24 ((rd_T59 l0_1 x5_1).f1) x7_2).f1)) ∧ w'.cell? ⟨(ad218.add ((x7_2).toNat * 8)).block, (ad218.add ((x7_2).toNat * 8)).off + 2, none⟩ = some (.int .i64 ((rd_T24 ((rd_T59 l0_1 x5_1).f1) x7_2).f2)) ∧ w'.cell? ⟨(ad218.add ((x7_2).toNat * 8)).block, (ad218.add ((x7_2).toNat * 8)).off + 3, none⟩ = some (.int .i64 ((rd_T24 ((rd_T59 l0_1 x5_1).f1) x7_2).f3)) ∧ w'.cell? ⟨(ad218.add ((x7_2).toNat * 8)).block, (ad218.add ((x7_2).toNat * 8)).off + 4, none⟩ = some (.int .i64 ((rd_T24 ((rd_T59 l0_1 x5_1).f1) x7_2).f4)) ∧ w'.cell? ⟨(ad218.add ((x7_2).toNat * 8)).block, (ad218.add ((x7_2).toNat * 8)).off + 5, none⟩ = some (.string ((rd_T24 ((rd_T59 l0_1 x5_1).f1) x7_2).f5)) ∧ w'.cell? ⟨(ad218.add ((x7_2).toNat * 8)).block, (ad218.add ((x7_2).toNat * 8)).off + 6, none⟩ = some (.slice A218_6 ((rd_T24 ((rd_T59 l0_1 x5_1).f1) x7_2).f6).length c218_6) ∧ w'.cell? ⟨(ad218.add ((x7_2).toNat * 8)).block, (ad218.add ((x7_2).toNat * 8)).off + 7, none⟩ = some (.bool ((rd_T24 ((rd_T59 l0_1 x5_1).f1) x7_2).f7))) (ds := []) #[Z,Z,Z,Z,Z,Z,Z,Z,Z,Z,Z,Z,Z,Z,Z] (by kernel_rfl) rfl rfl ⟨(blk_cell BK214.out 0).trans rfl, (blk_cell BK214.out 1).trans rfl, (blk_cell BK214.out 2).trans rfl, (blk_cell BK214.out 3).trans rfl, (blk_cell BK214.out 4).trans rfl, (blk_cell BK214.out 5).trans rfl, (blk_cell BK214.out 6).trans rfl, (blk_cell BK214.out 7).trans rfl, ((HB.out.cell (World.block_lt_of_cell? w _ hw218_0)).trans hw218_0), ((HB.out.cell (World.block_lt_of_cell? w _ hw218_1)).trans hw218_1), ((HB.out.cell (World.block_lt_of_cell? w _ hw218_2)).trans hw218_2), ((HB.out.cell (World.block_lt_of_cell? w _ hw218_3)).trans hw218_3), ((HB.out.cell (World.block_lt_of_cell? w _ hw218_4)).trans hw218_4), ((HB.out.cell (World.block_lt_of_cell? w _ hw218_5)).trans hw218_5), ((HB.out.cell (World.block_lt_of_cell? w _ hw218_6)).trans hw218_6), ((HB.out.cell (World.block_lt_of_cell? w _ hw218_7)).trans hw218_7)⟩ (fun hHeld => ?_); refine with_tabW hallmarkref06_Func.tab11 hallmarkref06_Func.bits11 (fun HT_ HW_ => ?_)
                    generalize wr.drew = w36 at BK211 BK214 HB HR218_6 hx218_0 hx218_1 hx218_2 hx218_3 hx218_4 hx218_5 hx218_6 hx218_7 hHeld ⊢
                    refine pure_ (i := 0) (N := some 47) (v := ?_) (a' := ?_) #[Y,Z,Z,Z,Z,Z,Z,Z,Z,Z,Z,Z,Z,Z,Z] rfl rfl (any_of HT_.out (by kernel_rfl)) (fun _ _ _ h => h) (Or.inl ⟨by rfl, ?_⟩) ?_ ?_
                    rotate_left
                    ·intro w'
                     go_simp
                     with_reducible rfl
                    rotate_left
                    ·simp only [Act.put, zl1, zl2, zl3, i64_w, i32_w]
                     rfl
                    refine pure_ (i := 1) (N := some 48) (v := ?_) (a' := ?_) #[Y,Y,Z,Z,Z,Z,Z,Z,Z,Z,Z,Z,Z,Z,Z] rfl rfl (any_of HT_.out (by kernel_rfl)) (fun _ _ _ h => h) (Or.inl ⟨by rfl, ?_⟩) ?_ ?_
                    rotate_left
                    ·intro w'
                     go_simp
                     with_reducible rfl
                    rotate_left
                    ·simp only [Act.put, zl1, zl2, zl3, i64_w, i32_w]
                     rfl
                    refine pure_ (i := 2) (N := some 49) (v := ?_) (a' := ?_) #[Y,Y,Y,Z,Z,Z,Z,Z,Z,Z,Z,Z,Z,Z,Z] rfl rfl (any_of HT_.out (by kernel_rfl)) (fun _ _ _ h => h) (Or.inl ⟨by rfl, ?_⟩) ?_ ?_
                    rotate_left
                    ·intro w'
                     go_simp
                     with_reducible rfl
                    rotate_left
                    ·simp only [Act.put, zl1, zl2, zl3, i64_w, i32_w]
                     rfl
                    refine pure_ (i := 6) (N := some 53) (v := ?_) (a' := ?_) #[Y,Y,Y,Z,Z,Z,Y,Z,Z,Z,Z,Z,Z,Z,Z] rfl rfl (any_of HT_.out (by kernel_rfl)) (fun _ _ _ h => h) (Or.inl ⟨by rfl, ?_⟩) ?_ ?_
                    rotate_left
                    ·intro w'
                     go_simp
                     with_reducible rfl
                    rotate_left
                    ·simp only [Act.put, zl1, zl2, zl3, i64_w, i32_w]
                     rfl
                    refine pure_ (i := 8) (N := some 55) (v := ?_) (a' := ?_) #[Y,Y,Y,Z,Z,Z,Y,Z,Y,Z,Z,Z,Z,Z,Z] rfl rfl (any_of HT_.out (by kernel_rfl)) (fun _ _ _ h => h) (Or.inl ⟨by rfl, ?_⟩) ?_ ?_
                    rotate_left
                    ·intro w'
                     go_simp
                     with_reducible rfl
                    rotate_left
                    ·simp only [Act.put, zl1, zl2, zl3, i64_w, i32_w]
                     rfl
                    refine take_ (i := 7) (N := some 54) (v := ?_) (a' := ?_) #[Y,Y,Y,Z,Z,Z,Y,Y,Y,Z,Z,Z,Z,Z,Z] rfl rfl (take_ofW HT_.out HW_.out (by kernel_rfl)) (fun _ _ _ h => h) (Or.inl ⟨by rfl, ?_⟩) hHeld ?_ ?_
                    rotate_left
                    ·rintro w' ⟨s0, s1, s2, s3, s4, s5, s6, s7, s8, s9, s10, s11, s12, s13, s14, s15⟩
                     go_simp
                     with_reducible rfl
                    rotate_left
                    ·simp only [Act.put, zl1, zl2, zl3, i64_w, i32_w]
                     rfl
                    refine pure_ (i := 9) (N := some 56) (v := ?_) (a' := ?_) #[Y,Y,Y,Z,Z,Z,Y,Y,Y,Y,Z,Z,Z,Z,Z] rfl rfl (any_of HT_.out (by kernel_rfl)) (fun _ _ _ h => h) (Or.inl ⟨by rfl, ?_⟩) ?_ ?_
                    rotate_left
                    ·intro w'
                     go_simp
                     with_reducible rfl
                    rotate_left
                    ·simp only [Act.put, zl1, zl2, zl3, i64_w, i32_w]
                     rfl
                    refine take_ (i := 10) (N := some 57) (v := ?_) (a' := ?_) #[Y,Y,Y,Z,Z,Z,Y,Y,Y,Y,Y,Z,Z,Z,Z] rfl rfl (take_ofW HT_.out HW_.out (by kernel_rfl)) (fun _ _ _ h => h) (Or.inl ⟨by rfl, ?_⟩) hHeld ?_ ?_
                    rotate_left
                    ·rintro w' ⟨s0, s1, s2, s3, s4, s5, s6, s7, s8, s9, s10, s11, s12, s13, s14, s15⟩
                     go_simp
                     with_reducible rfl
                    rotate_left
                    ·simp only [Act.put, zl1, zl2, zl3, i64_w, i32_w]
                     rfl
                    refine one_ (i := 3) (N := some 50) #[Y,Y,Y,Y,Z,Z,Y,Y,Y,Y,Y,Z,Z,Z,Z] rfl rfl (one_of HT_.out (by kernel_rfl)) (by decide) (fun K hK => ?_)
                    refine goes_ Tryd.func24 (by kernel_rfl) rfl #[.int .i64 x4_2] (by rfl) rfl rfl (by (try simp only [List.map_toArray, List.map_cons, List.map_nil]); first | done | rfl | (simp only [List.length_drop, List.length_take]; rfl)) ?_
                    with_reducible refine (hallmarkref06_num.calls k2 x4_2 t217 _ A27.out).mono ?_
                    rintro e w37 ⟨rfl, hb⟩
                    refine ⟨_, rfl, ?_⟩
                    replace BK211 := zm (blk_below (g := gb211) (o := .cells #[.int .i64 a0_0, .slice (some ad213) l0_1.length c0_1] 44 (0, 0)) BK211.out hb)
                    replace BK214 := zm (blk_below (g := gb214) (o := .cells #[.slice A213_0 ((rd_T59 l0_1 x5_1).f0).length c213_0, .slice (some ad218) ((rd_T59 l0_1 x5_1).f1).length c213_1, .int .i64 ((rd_T59 l0_1 x5_1).f2.f0), .int .i64 ((rd_T59 l0_1 x5_1).f2.f1), .int .i64 ((rd_T59 l0_1 x5_1).f2.f2), .int .i64 ((rd_T59 l0_1 x5_1).f2.f3), .slice A213_6 ((rd_T59 l0_1 x5_1).f2.f4).length c213_6, .slice A213_7 ((rd_T59 l0_1 x5_1).f2.f5).length c213_7] 59 (0, 0)) BK214.out hb)
                    replace HB := zm (below_step (by repeat (first | (with_reducible first | exact HB.out | apply below_alloc | apply pw_below_drewN | apply below_drew1 | refine below_set ?_ GE211.out | refine below_set ?_ GE214.out) | exact HB.out)) hb)
                    (try clear hb)
                    (try clear hb2)
                    (try clear hk)
                    (try clear hi)
                    refine hK.out _ _ ⟨(blk_cell BK214.out 0).trans rfl, (blk_cell BK214.out 1).trans rfl, (blk_cell BK214.out 2).trans rfl, (blk_cell BK214.out 3).trans rfl, (blk_cell BK214.out 4).trans rfl, (blk_cell BK214.out 5).trans rfl, (blk_cell BK214.out 6).trans rfl, (blk_cell BK214.out 7).trans rfl, ((HB.out.cell (World.block_lt_of_cell? w _ hw218_0)).trans hw218_0), ((HB.out.cell (World.block_lt_of_cell? w _ hw218_1)).trans hw218_1), ((HB.out.cell (World.block_lt_of_cell? w _ hw218_2)).trans hw218_2), ((HB.out.cell (World.block_lt_of_cell? w _ hw218_3)).trans hw218_3), ((HB.out.cell (World.block_lt_of_cell? w _ hw218_4)).trans hw218_4), ((HB.out.cell (World.block_lt_of_cell? w _ hw218_5)).trans hw218_5), ((HB.out.cell (World.block_lt_of_cell? w _ hw218_6)).trans hw218_6), ((HB.out.cell (World.block_lt_of_cell? w _ hw218_7)).trans hw218_7)⟩ (fun hHeld => ?_)
                    clear hK K
                    refine norm_ (a' := ?_) ?_ ?_
                    rotate_left
                    ·show Act.put _ (some 50) _ = _
                     simp only [Act.put, zl1, zl2, zl3, i64_w, i32_w]
                     rfl
                    refine pure_ (i := 4) (N := some 51) (v := ?_) (a' := ?_) #[Y,Y,Y,Y,Y,Z,Y,Y,Y,Y,Y,Z,Z,Z,Z] rfl rfl (any_of HT_.out (by kernel_rfl)) (fun _ _ _ h => h) (Or.inl ⟨by rfl, ?_⟩) ?_ ?_
                    rotate_left
                    ·intro w'
                     go_simp
                     with_reducible rfl
                    rotate_left
                    ·simp only [Act.put, zl1, zl2, zl3, i64_w, i32_w]
                     rfl
                    refine pure_ (i := 5) (N := some 52) (v := ?_) (a' := ?_) #[Y,Y,Y,Y,Y,Y,Y,Y,Y,Y,Y,Z,Z,Z,Z] rfl rfl (any_of HT_.out (by kernel_rfl)) (fun _ _ _ h => h) (Or.inl ⟨by rfl, ?_⟩) ?_ ?_
                    rotate_left
                    ·intro w'
                     go_simp
                     with_reducible rfl
                    rotate_left
                    ·simp only [Act.put, zl1, zl2, zl3, i64_w, i32_w]
                     rfl
                    refine one_ (i := 11) (N := some 58) #[Y,Y,Y,Y,Y,Y,Y,Y,Y,Y,Y,Y,Z,Z,Z] rfl rfl (one_of HT_.out (by kernel_rfl)) (by decide) (fun K hK => ?_)
                    refine goes_ Tryd.func8 (by kernel_rfl) rfl #[.agg #[.int .i64 ((rd_T24 ((rd_T59 l0_1 x5_1).f1) x7_2).f0), .int .i64 ((rd_T24 ((rd_T59 l0_1 x5_1).f1) x7_2).f1), .int .i64 ((rd_T24 ((rd_T59 l0_1 x5_1).f1) x7_2).f2), .int .i64 ((rd_T24 ((rd_T59 l0_1 x5_1).f1) x7_2).f3), .int .i64 ((rd_T24 ((rd_T59 l0_1 x5_1).f1) x7_2).f4), .string ((rd_T24 ((rd_T59 l0_1 x5_1).f1) x7_2).f5), .slice A218_6 ((rd_T24 ((rd_T59 l0_1 x5_1).f1) x7_2).f6).length c218_6, .bool ((rd_T24 ((rd_T59 l0_1 x5_1).f1) x7_2).f7)]] (by rfl) rfl rfl (by (try simp only [List.map_toArray, List.map_cons, List.map_nil]); first | done | rfl | (simp only [List.length_drop, List.length_take]; rfl)) ?_
                    with_reducible refine (hallmarkref06_Op.calls k2 ((rd_T24 ((rd_T59 l0_1 x5_1).f1) x7_2).f0) ((rd_T24 ((rd_T59 l0_1 x5_1).f1) x7_2).f1) ((rd_T24 ((rd_T59 l0_1 x5_1).f1) x7_2).f2) ((rd_T24 ((rd_T59 l0_1 x5_1).f1) x7_2).f3) ((rd_T24 ((rd_T59 l0_1 x5_1).f1) x7_2).f4) ((rd_T24 ((rd_T59 l0_1 x5_1).f1) x7_2).f5) _ _ ((rd_T24 ((rd_T59 l0_1 x5_1).f1) x7_2).f6) ((rd_T24 ((rd_T59 l0_1 x5_1).f1) x7_2).f7) t219 _ ?side1 ?side2 A31.out).mono ?_
                    (case side1 => repeat (first | exact (Kd.C_below HR218_6.out HB.out) | (with_reducible refine Kd.C_alloc ?_ _) | (with_reducible refine Kd.C_drewN ?_ _) | (with_reducible refine Kd.C_drew ?_)))
                    (case side2 => exact HC218_6.out)
                    rintro e w38 ⟨rfl, hb⟩
                    refine ⟨_, rfl, ?_⟩
                    replace BK211 := zm (blk_below (g := gb211) (o := .cells #[.int .i64 a0_0, .slice (some ad213) l0_1.length c0_1] 44 (0, 0)) BK211.out hb)
                    replace BK214 := zm (blk_below (g := gb214) (o := .cells #[.slice A213_0 ((rd_T59 l0_1 x5_1).f0).length c213_0, .slice (some ad218) ((rd_T59 l0_1 x5_1).f1).length c213_1, .int .i64 ((rd_T59 l0_1 x5_1).f2.f0), .int .i64 ((rd_T59 l0_1 x5_1).f2.f1), .int .i64 ((rd_T59 l0_1 x5_1).f2.f2), .int .i64 ((rd_T59 l0_1 x5_1).f2.f3), .slice A213_6 ((rd_T59 l0_1 x5_1).f2.f4).length c213_6, .slice A213_7 ((rd_T59 l0_1 x5_1).f2.f5).length c213_7] 59 (0, 0)) BK214.out hb)
                    replace HB := zm (below_step (by repeat (first | (with_reducible first | exact HB.out | apply below_alloc | apply pw_below_drewN | apply below_drew1 | refine below_set ?_ GE211.out | refine below_set ?_ GE214.out) | exact HB.out)) hb)
                    (try clear hb)
                    (try clear hb2)
                    (try clear hk)
                    (try clear hi)
                    refine hK.out _ _ ⟨(blk_cell BK214.out 0).trans rfl, (blk_cell BK214.out 1).trans rfl, (blk_cell BK214.out 2).trans rfl, (blk_cell BK214.out 3).trans rfl, (blk_cell BK214.out 4).trans rfl, (blk_cell BK214.out 5).trans rfl, (blk_cell BK214.out 6).trans rfl, (blk_cell BK214.out 7).trans rfl, ((HB.out.cell (World.block_lt_of_cell? w _ hw218_0)).trans hw218_0), ((HB.out.cell (World.block_lt_of_cell? w _ hw218_1)).trans hw218_1), ((HB.out.cell (World.block_lt_of_cell? w _ hw218_2)).trans hw218_2), ((HB.out.cell (World.block_lt_of_cell? w _ hw218_3)).trans hw218_3), ((HB.out.cell (World.block_lt_of_cell? w _ hw218_4)).trans hw218_4), ((HB.out.cell (World.block_lt_of_cell? w _ hw218_5)).trans hw218_5), ((HB.out.cell (World.block_lt_of_cell? w _ hw218_6)).trans hw218_6), ((HB.out.cell (World.block_lt_of_cell? w _ hw218_7)).trans hw218_7)⟩ (fun hHeld => ?_)
                    clear hK K
                    refine norm_ (a' := ?_) ?_ ?_
                    rotate_left
                    ·show Act.put _ (some 58) _ = _
                     simp only [Act.put, zl1, zl2, zl3, i64_w, i32_w]
                     rfl
                    refine pure_ (i := 12) (N := some 59) (v := ?_) (a' := ?_) #[Y,Y,Y,Y,Y,Y,Y,Y,Y,Y,Y,Y,Y,Z,Z] rfl rfl (any_of HT_.out (by kernel_rfl)) (fun _ _ _ h => h) (Or.inl ⟨by rfl, ?_⟩) ?_ ?_
                    rotate_left
                    ·intro w'
                     go_simp
                     with_reducible rfl
                    rotate_left
                    ·simp only [Act.put, zl1, zl2, zl3, i64_w, i32_w]
                     rfl
                    refine pure_ (i := 13) (N := some 60) (v := ?_) (a' := ?_) #[Y,Y,Y,Y,Y,Y,Y,Y,Y,Y,Y,Y,Y,Y,Z] rfl rfl (any_of HT_.out (by kernel_rfl)) (fun _ _ _ h => h) (Or.inl ⟨by rfl, ?_⟩) ?_ ?_
                    rotate_left
                    ·intro w'
                     go_simp
                     with_reducible rfl
                    rotate_left
                    ·simp only [Act.put, zl1, zl2, zl3, i64_w, i32_w]
                     rfl
                    refine pure_ (i := 14) (N := some 3) (v := ?_) (a' := ?_) #[Y,Y,Y,Y,Y,Y,Y,Y,Y,Y,Y,Y,Y,Y,Y] rfl rfl (any_of HT_.out (by kernel_rfl)) (fun _ _ _ h => h) (Or.inl ⟨by rfl, ?_⟩) ?_ ?_
                    rotate_left
                    ·intro w'
                     go_simp
                     with_reducible rfl
                    rotate_left
                    ·simp only [Act.put, zl1, zl2, zl3, i64_w, i32_w]
                     rfl
                    refine done_ (done_of HT_.out (by kernel_rfl)) ?_
                    try go_wp2
                    go_roundg k2
                    case measure => have := HK1.out; have := HK2.out; omega
                    case rel => exact ⟨(((((x3_2 ++ (⟨#[32, 32, 118]⟩ : ByteArray)) ++ t217) ++ (⟨#[32, 61, 32]⟩ : ByteArray)) ++ t219) ++ (⟨#[10]⟩ : ByteArray)), (wrap64 (x4_2 + 1)), (wrap64 (x7_2 + 1)), (by first | rfl | (simp; done) | (simp [*]; done) | (simp [*, wrap64]; done) | (simp [*]; unfold wrap64; omega)), (by first | rfl | (simp; done) | (simp [*]; done) | (simp [*, wrap64]; done) | (simp [*]; unfold wrap64; omega)), (by first | rfl | (simp; done) | (simp [*]; done) | (simp [*, wrap64]; done) | (simp [*]; unfold wrap64; omega)), H', ⟨by have := HK1.out; have := HK2.out; omega⟩, ⟨by (with_reducible repeat (first | refine blk_drewN ?_ _ | refine blk_drew ?_ | refine blk_alloc ?_ _)); exact BK211.out⟩, ⟨by (with_reducible repeat (first | refine blk_drewN ?_ _ | refine blk_drew ?_ | refine blk_alloc ?_ _)); exact BK214.out⟩, ⟨by repeat (first | (with_reducible first | exact HB.out | apply below_alloc | apply pw_below_drewN | apply below_drew1 | refine below_set ?_ GE211.out | refine below_set ?_ GE214.out) | exact HB.out)⟩⟩
                   ·rw [if_neg c33] at H
                    exact absurd H (by simp)
                  ·rw [if_neg c32] at H
                   exact absurd H (by simp)
                 ·rw [if_neg c30] at H
                  exact absurd H (by simp)
                ·rw [if_neg c29] at H
                 exact absurd H (by simp)
               ·rw [if_neg c28] at H
                exact absurd H (by simp)
              ·rw [if_neg c26] at H
               exact absurd H (by simp)
             ·rw [if_neg c25] at H
              have c25b0 : decide (x7_2 < (((rd_T59 l0_1 x5_1).f1).length : Int)) = false := decide_eq_false c25
              clear c25
              by_cases c39 : x3_2.size + 2 ≤ 9223372036854775807
              ·rw [if_pos c39] at H
               have c39b0 := eq_true c39
               have c39b1 : decide (x3_2.size + 2 ≤ 9223372036854775807) = true := decide_eq_true c39
               try have c39b2 : (9223372036854775807 < x3_2.size + 2) = False := eq_false (Nat.not_lt.2 c39)
               replace H := Option.bind_eq_some_iff.mp H
               obtain ⟨t220, A400, H⟩ := H
               replace H : (if (x3_2 ++ (⟨#[32, 32]⟩ : ByteArray)).size + t220.size ≤ 9223372036854775807 then (if ((x3_2 ++ (⟨#[32, 32]⟩ : ByteArray)) ++ t220).size + 1 ≤ 9223372036854775807 then (hallmarkref06_Func.l0 k2 (((x3_2 ++ (⟨#[32, 32]⟩ : ByteArray)) ++ t220) ++ (⟨#[10]⟩ : ByteArray)) x4_2 (wrap64 (x5_1 + 1)) a0_0 l0_1) else (none)) else (none)) = some r := H
               have A40 := zm A400
               clear A400
               by_cases c41 : (x3_2 ++ (⟨#[32, 32]⟩ : ByteArray)).size + t220.size ≤ 9223372036854775807
               ·rw [if_pos c41] at H
                have c41b0 := eq_true c41
                have c41b1 : decide ((x3_2 ++ (⟨#[32, 32]⟩ : ByteArray)).size + t220.size ≤ 9223372036854775807) = true := decide_eq_true c41
                have c41n := c41
                simp only [ByteArray.size_append, show (⟨#[32, 32]⟩ : ByteArray).size = 2 from rfl] at c41n
                have c41n0 := eq_true c41n
                have c41n1 := decide_eq_true c41n
                have c41n2 := eq_false (Nat.not_lt.2 c41n)
                clear c41n
                try have c41b2 : (9223372036854775807 < (x3_2 ++ (⟨#[32, 32]⟩ : ByteArray)).size + t220.size) = False := eq_false (Nat.not_lt.2 c41)
                by_cases c42 : ((x3_2 ++ (⟨#[32, 32]⟩ : ByteArray)) ++ t220).size + 1 ≤ 9223372036854775807
                ·rw [if_pos c42] at H
                 have c42b0 := eq_true c42
                 have c42b1 : decide (((x3_2 ++ (⟨#[32, 32]⟩ : ByteArray)) ++ t220).size + 1 ≤ 9223372036854775807) = true := decide_eq_true c42
                 have c42n := c42
                 simp only [ByteArray.size_append, show (⟨#[32, 32]⟩ : ByteArray).size = 2 from rfl] at c42n
                 have c42n0 := eq_true c42n
                 have c42n1 := decide_eq_true c42n
                 have c42n2 := eq_false (Nat.not_lt.2 c42n)
                 clear c42n
                 try have c42b2 : (9223372036854775807 < ((x3_2 ++ (⟨#[32, 32]⟩ : ByteArray)) ++ t220).size + 1) = False := eq_false (Nat.not_lt.2 c42)
                 have H' := zm H
                 clear H
                 have hnb43 := NB214_211.out
                 have hnc43 := NB211_214.out
                 have hcz44_0 : wr.cell? ⟨gb214, 0, none⟩ = some (.slice A213_0 ((rd_T59 l0_1 x5_1).f0).length c213_0) := (blk_cell BK214.out 0).trans rfl
                 have hcz44_1 : wr.cell? ⟨gb214, 1, none⟩ = some (.slice A213_1 ((rd_T59 l0_1 x5_1).f1).length c213_1) := (blk_cell BK214.out 1).trans rfl
                 have hcz44_2 : wr.cell? ⟨gb214, 2, none⟩ = some (.int .i64 ((rd_T59 l0_1 x5_1).f2.f0)) := (blk_cell BK214.out 2).trans rfl
                 have hcz44_3 : wr.cell? ⟨gb214, 3, none⟩ = some (.int .i64 ((rd_T59 l0_1 x5_1).f2.f1)) := (blk_cell BK214.out 3).trans rfl
                 have hcz44_4 : wr.cell? ⟨gb214, 4, none⟩ = some (.int .i64 ((rd_T59 l0_1 x5_1).f2.f2)) := (blk_cell BK214.out 4).trans rfl
                 have hcz44_5 : wr.cell? ⟨gb214, 5, none⟩ = some (.int .i64 ((rd_T59 l0_1 x5_1).f2.f3)) := (blk_cell BK214.out 5).trans rfl
                 have hcz44_6 : wr.cell? ⟨gb214, 6, none⟩ = some (.slice A213_6 ((rd_T59 l0_1 x5_1).f2.f4).length c213_6) := (blk_cell BK214.out 6).trans rfl
                 have hcz44_7 : wr.cell? ⟨gb214, 7, none⟩ = some (.slice A213_7 ((rd_T59 l0_1 x5_1).f2.f5).length c213_7) := (blk_cell BK214.out 7).trans rfl
                 have hfz44_0 := blk_frozen BK214.out 0
                 have hfz44_1 := blk_frozen BK214.out 1
                 have hfz44_2 := blk_frozen BK214.out 2
                 have hfz44_3 := blk_frozen BK214.out 3
                 have hfz44_4 := blk_frozen BK214.out 4
                 have hfz44_5 := blk_frozen BK214.out 5
                 have hfz44_6 := blk_frozen BK214.out 6
                 have hfz44_7 := blk_frozen BK214.out 7
                 go_wp2_with (first | ((with_reducible refine gate_callee (f := 37) rfl ?_); refine goesL_ (some 67) rfl rfl Tryd.func37 (by kernel_rfl) rfl #[.agg #[.int .i64 ((rd_T59 l0_1 x5_1).f2.f0), .int .i64 ((rd_T59 l0_1 x5_1).f2.f1), .int .i64 ((rd_T59 l0_1 x5_1).f2.f2), .int .i64 ((rd_T59 l0_1 x5_1).f2.f3), .slice A213_6 ((rd_T59 l0_1 x5_1).f2.f4).length c213_6, .slice A213_7 ((rd_T59 l0_1 x5_1).f2.f5).length c213_7]] rfl (by (try simp only [List.map_toArray, List.map_cons, List.map_nil]); first | done | rfl | (simp only [List.length_drop, List.length_take]; rfl)) ?_; (with_reducible refine (hallmarkref06_end.calls k2 ((rd_T59 l0_1 x5_1).f2.f0) ((rd_T59 l0_1 x5_1).f2.f1) ((rd_T59 l0_1 x5_1).f2.f2) ((rd_T59 l0_1 x5_1).f2.f3) _ _ ((rd_T59 l0_1 x5_1).f2.f4) _ _ ((rd_T59 l0_1 x5_1).f2.f5) t220 _ ?side1 ?side2 ?side3 ?side4 A40.out).mono ?_); (case side1 => repeat (first | exact (Kd.C_below HR213_6.out HB.out) | (with_reducible refine Kd.C_alloc ?_ _) | (with_reducible refine Kd.C_drewN ?_ _) | (with_reducible refine Kd.C_drew ?_))); (case side2 => exact HC213_6.out); (case side3 => repeat (first | exact (Kd.C_below HR213_7.out HB.out) | (with_reducible refine Kd.C_alloc ?_ _) | (with_reducible refine Kd.C_drewN ?_ _) | (with_reducible refine Kd.C_drew ?_))); (case side4 => exact HC213_7.out); rintro e w45 ⟨rfl, hb⟩; refine ⟨_, rfl, ?_⟩; have n0_ := zm (blk_below (g := gb211) (o := .cells #[.int .i64 a0_0, .slice (some ad213) l0_1.length c0_1] 44 (0, 0)) (by (with_reducible repeat (first | refine blk_drewN ?_ _ | refine blk_drew ?_ | refine blk_alloc ?_ _)); exact BK211.out) hb); have n1_ := zm (blk_below (g := gb214) (o := .cells #[.slice A213_0 ((rd_T59 l0_1 x5_1).f0).length c213_0, .slice A213_1 ((rd_T59 l0_1 x5_1).f1).length c213_1, .int .i64 ((rd_T59 l0_1 x5_1).f2.f0), .int .i64 ((rd_T59 l0_1 x5_1).f2.f1), .int .i64 ((rd_T59 l0_1 x5_1).f2.f2), .int .i64 ((rd_T59 l0_1 x5_1).f2.f3), .slice A213_6 ((rd_T59 l0_1 x5_1).f2.f4).length c213_6, .slice A213_7 ((rd_T59 l0_1 x5_1).f2.f5).length c213_7] 59 (0, 0)) (by (with_reducible repeat (first | refine blk_drewN ?_ _ | refine blk_drew ?_ | refine blk_alloc ?_ _)); exact BK214.out) hb); have n2_ := zm (below_step (by repeat (first | (with_reducible first | exact HB.out | apply below_alloc | apply pw_below_drewN | apply below_drew1 | refine below_set ?_ GE211.out | refine below_set ?_ GE214.out) | exact HB.out)) hb); clear BK211; clear BK214; clear HB; have BK211 := n0_; have BK214 := n1_; have HB := n2_; clear n0_ n1_ n2_; (try clear hb); (try clear hb2); (try clear hk); (try clear hi)))
                 go_roundg k2
                 case measure => have := HK1.out; have := HK2.out; omega
                 case rel => exact ⟨(((x3_2 ++ (⟨#[32, 32]⟩ : ByteArray)) ++ t220) ++ (⟨#[10]⟩ : ByteArray)), (x4_2), (wrap64 (x5_1 + 1)), (by first | rfl | (simp; done) | (simp [*]; done) | (simp [*, wrap64]; done) | (simp [*]; unfold wrap64; omega)), (by first | rfl | (simp; done) | (simp [*]; done) | (simp [*, wrap64]; done) | (simp [*]; unfold wrap64; omega)), (by first | rfl | (simp; done) | (simp [*]; done) | (simp [*, wrap64]; done) | (simp [*]; unfold wrap64; omega)), H', ⟨by have := HK1.out; have := HK2.out; omega⟩, ⟨by (with_reducible repeat (first | refine blk_drewN ?_ _ | refine blk_drew ?_ | refine blk_alloc ?_ _)); exact BK211.out⟩, ⟨by repeat (first | (with_reducible first | exact HB.out | apply below_alloc | apply pw_below_drewN | apply below_drew1 | refine below_set ?_ GE211.out | refine below_set ?_ GE214.out) | exact HB.out)⟩⟩
                ·rw [if_neg c42] at H
                 exact absurd H (by simp)
               ·rw [if_neg c41] at H
                exact absurd H (by simp)
              ·rw [if_neg c39] at H
               exact absurd H (by simp)
          ·rw [if_neg c15] at H
           exact absurd H (by simp)
         ·rw [if_neg c14] at H
          exact absurd H (by simp)
        ·rw [if_neg c12] at H
         exact absurd H (by simp)
       ·rw [if_neg c11] at H
        exact absurd H (by simp)
      ·rw [if_neg c9] at H
       exact absurd H (by simp)
     ·rw [if_neg c8] at H
      have c8b0 : decide (x5_1 < (l0_1.length : Int)) = false := decide_eq_false c8
      clear c8
      obtain rfl := Option.some.inj H
      have hcz46_0 : wr.cell? ⟨gb211, 0, none⟩ = some (.int .i64 a0_0) := (blk_cell BK211.out 0).trans rfl
      have hcz46_1 : wr.cell? ⟨gb211, 1, none⟩ = some (.slice A0_1 l0_1.length c0_1) := (blk_cell BK211.out 1).trans rfl
      have hfz46_0 := blk_frozen BK211.out 0
      have hfz46_1 := blk_frozen BK211.out 1
      go_wp2
      go_ret
      exact ⟨by first | rfl | (simp [errW_none, errW_some] <;> rfl) | (simp [*, errW_none, errW_some] <;> rfl), by repeat (first | (with_reducible first | exact HB.out | apply below_alloc | apply pw_below_drewN | apply below_drew1 | refine below_set ?_ GE211.out) | exact HB.out)⟩
  ·rw [if_neg c4] at H
   exact absurd H (by simp)
 ·rw [if_neg c3] at H
  exact absurd H (by simp)

end Go.Proofs.YtojmepkhbebllaaDoor.PShowProgs
