-- written by wip/print2.py
import Derived.Test.YtbjdiaefchcbjaaDoorPKindFieldsx0
import Derived.Test.YtbjdiaefchcbjaaDoorPKindFieldsx3
import Derived.Test.YtbjdiaefchcbjaaDoorPKindFieldsx5
import Derived.Test.YtbjdiaefchcbjaaDoorPKindFieldsx6
namespace Go.Proofs.YtbjdiaefchcbjaaDoor.PKindFields
open Go.RowKit Go.Proofs.YtbjdiaefchcbjaaDoorW.PrintWords Go.Proofs.YtbjdiaefchcbjaaDoorW.PrintLast Go.Proofs.YtbjdiaefchcbjaaDoorW.PrintMore
attribute [local go_sem] max2_int min2_int max_two min_two max_three min_three max_four min_four   -- for this text's walks alone
set_option linter.unusedVariables false
set_option linter.unusedSimpArgs false

/-! ### hallmarklaw04_exact: function 17 -/
def hallmarklaw04_exact.f (k : Nat) (a0_0 : Int) (a0_1 : Int) (a0_2 : Int) (a0_3 : Int) (a0_4 : Int) (a0_5 : ByteArray) (l0_6 : List Int) (a0_7 : Bool) (a1_0 : Int) (a1_1 : Int) (a1_2 : Int) (a1_3 : Int) (a1_4 : Int) (a1_5 : ByteArray) (l1_6 : List Int) (a1_7 : Bool) : Option (Bool) := if a0_0 = a1_0 then (if a0_1 = a1_1 then (if a0_2 = a1_2 then (if a0_3 = a1_3 then (if a0_4 = a1_4 then (if a0_5.toList = a1_5.toList then (if (a0_7 == a1_7) = true then ((hallmarkref04_Ints.f k l0_6 l1_6).bind fun t137 => (some t137)) else (some false)) else (some false)) else (some false)) else (some false)) else (some false)) else (some false)) else (some false)
theorem hallmarklaw04_exact.mono : ∀ a0 a1 a2 a3 a4 a5 a6 a7 a8 a9 a10 a11 a12 a13 a14 a15 k, LeO (hallmarklaw04_exact.f k a0 a1 a2 a3 a4 a5 a6 a7 a8 a9 a10 a11 a12 a13 a14 a15) (hallmarklaw04_exact.f (k + 1) a0 a1 a2 a3 a4 a5 a6 a7 a8 a9 a10 a11 a12 a13 a14 a15) := by
  intro a0 a1 a2 a3 a4 a5 a6 a7 a8 a9 a10 a11 a12 a13 a14 a15 k
  unfold hallmarklaw04_exact.f
  repeat' first
      | (with_reducible exact hallmarkref04_Ints.mono _ _ _)
      | (with_reducible exact LeO.refl _)
      | (with_reducible exact LeO.none _)
      | (with_reducible refine LeO.ite ?_ ?_)
      | (with_reducible refine LeO.bind ?_ (fun _ => ?_))
      | exact hallmarkref04_Ints.mono _ _ _
      | exact LeO.none _
      | refine LeO.ite ?_ ?_
      | refine LeO.bind ?_ (fun _ => ?_)
set_option maxHeartbeats 8000000 in
set_option maxRecDepth 100000 in
theorem hallmarklaw04_exact.calls (k : Nat) (a0_0 : Int) (a0_1 : Int) (a0_2 : Int) (a0_3 : Int) (a0_4 : Int) (a0_5 : ByteArray) (A0_6 : Option Addr) (c0_6 : Nat) (l0_6 : List Int) (a0_7 : Bool) (a1_0 : Int) (a1_1 : Int) (a1_2 : Int) (a1_3 : Int) (a1_4 : Int) (a1_5 : ByteArray) (A1_6 : Option Addr) (c1_6 : Nat) (l1_6 : List Int) (a1_7 : Bool) (r : Bool) (w : World) (hr0_6 : Kd.C (Kd.int .i64) w A0_6 l0_6.length l0_6) (hc0_6 : l0_6.length ≤ c0_6) (hr1_6 : Kd.C (Kd.int .i64) w A1_6 l1_6.length l1_6) (hc1_6 : l1_6.length ≤ c1_6) (h : hallmarklaw04_exact.f k a0_0 a0_1 a0_2 a0_3 a0_4 a0_5 l0_6 a0_7 a1_0 a1_1 a1_2 a1_3 a1_4 a1_5 l1_6 a1_7 = some r) :
    Calls Tryd.prog 17 #[.agg #[.int .i64 a0_0, .int .i64 a0_1, .int .i64 a0_2, .int .i64 a0_3, .int .i64 a0_4, .string a0_5, .slice A0_6 l0_6.length c0_6, .bool a0_7], .agg #[.int .i64 a1_0, .int .i64 a1_1, .int .i64 a1_2, .int .i64 a1_3, .int .i64 a1_4, .string a1_5, .slice A1_6 l1_6.length c1_6, .bool a1_7]] w fun e w' => e = .returned (.bool r) ∧ Below w.heap.size w w' := by
  have hu33 := Tryd.underlying33
  have HR0_6 := Aside0.mk hr0_6
  have HC0_6 := Aside0.mk hc0_6
  clear hr0_6 hc0_6
  have HR1_6 := Aside0.mk hr1_6
  have HC1_6 := Aside0.mk hc1_6
  clear hr1_6 hc1_6
  have HB := Aside0.mk (Below.refl w.heap.size w)
  have H : (if a0_0 = a1_0 then (if a0_1 = a1_1 then (if a0_2 = a1_2 then (if a0_3 = a1_3 then (if a0_4 = a1_4 then (if a0_5.toList = a1_5.toList then (if (a0_7 == a1_7) = true then ((hallmarkref04_Ints.f k l0_6 l1_6).bind fun t137 => (some t137)) else (some false)) else (some false)) else (some false)) else (some false)) else (some false)) else (some false)) else (some false)) = some r := h
  clear h
  by_cases c3 : a0_0 = a1_0
  · rw [if_pos c3] at H
    have c3b0 : (a0_0 == a1_0) = true := beq_iff_eq.mpr c3
    have c3b1 : (a0_0 != a1_0) = false := bne_eq_false_iff_eq.mpr c3
    clear c3
    by_cases c4 : a0_1 = a1_1
    · rw [if_pos c4] at H
      have c4b0 : (a0_1 == a1_1) = true := beq_iff_eq.mpr c4
      have c4b1 : (a0_1 != a1_1) = false := bne_eq_false_iff_eq.mpr c4
      clear c4
      by_cases c5 : a0_2 = a1_2
      · rw [if_pos c5] at H
        have c5b0 : (a0_2 == a1_2) = true := beq_iff_eq.mpr c5
        have c5b1 : (a0_2 != a1_2) = false := bne_eq_false_iff_eq.mpr c5
        clear c5
        by_cases c6 : a0_3 = a1_3
        · rw [if_pos c6] at H
          have c6b0 : (a0_3 == a1_3) = true := beq_iff_eq.mpr c6
          have c6b1 : (a0_3 != a1_3) = false := bne_eq_false_iff_eq.mpr c6
          clear c6
          by_cases c7 : a0_4 = a1_4
          · rw [if_pos c7] at H
            have c7b0 : (a0_4 == a1_4) = true := beq_iff_eq.mpr c7
            have c7b1 : (a0_4 != a1_4) = false := bne_eq_false_iff_eq.mpr c7
            clear c7
            by_cases c8 : a0_5.toList = a1_5.toList
            · rw [if_pos c8] at H
              have c8b0 : (a0_5.toList == a1_5.toList) = true := beq_iff_eq.mpr c8
              have c8b1 : (a0_5.toList != a1_5.toList) = false := bne_eq_false_iff_eq.mpr c8
              clear c8
              by_cases c9 : (a0_7 == a1_7) = true
              · rw [if_pos c9] at H
                have c9b0 : (a0_7 == a1_7) = true := c9
                (try (have c9b1 : decide (a0_7 = a1_7) = true := by simpa using c9))
                (try (have c9b2 : (a0_7 == a1_7) = true := by simpa using c9))
                clear c9
                replace H := Option.bind_eq_some_iff.mp H
                obtain ⟨t137, A100, H⟩ := H
                replace H : (some t137) = some r := H
                have A10 := Aside0.mk A100
                clear A100
                obtain rfl := Option.some.inj H
                go_enter Tryd.func17, Tryd.ntmps17
                go_wp2_with (first | ((with_reducible refine gate_dst (N := 2) rfl ?_); refine box_event ?hg (N := 2) ?hd (cs := #[.int .i64 a0_0, .int .i64 a0_1, .int .i64 a0_2, .int .i64 a0_3, .int .i64 a0_4, .string a0_5, .slice A0_6 l0_6.length c0_6, .bool a0_7]) (t := 33) ?hr ?_; (case hd => rfl); (case hg => rfl); (case hr => first | (go_simp; done) | (go_simp; rfl)); intro gb135 hg w11 hbox hb; have n0_ := Aside0.mk (below_step (by repeat (first | (with_reducible first | exact HB.out | apply below_alloc | apply pw_below_drewN | apply below_drew1) | exact HB.out)) hb); have n1_ := Aside0.mk (hbox); have n2_ := Aside0.mk ((by rw [hg]; exact (below_size (by repeat (first | (with_reducible first | exact HB.out | apply below_alloc | apply pw_below_drewN | apply below_drew1) | exact HB.out))) : w.heap.size ≤ gb135)); have n3_ := Aside0.mk ((by rw [hg]; exact (below_size (by repeat (first | (with_reducible first | exact HB.out | apply below_alloc | apply pw_below_drewN | apply below_drew1) | exact HB.out))) : w.heap.size ≤ gb135)); clear HB; have HB := n0_; have BK135 := n1_; have GW135 := n2_; have GE135 := n3_; clear n0_ n1_ n2_ n3_; clear hb hbox hg) | ((with_reducible refine gate_dst (N := 3) rfl ?_); refine box_event ?hg (N := 3) ?hd (cs := #[.int .i64 a1_0, .int .i64 a1_1, .int .i64 a1_2, .int .i64 a1_3, .int .i64 a1_4, .string a1_5, .slice A1_6 l1_6.length c1_6, .bool a1_7]) (t := 33) ?hr ?_; (case hd => rfl); (case hg => rfl); (case hr => first | (go_simp; done) | (go_simp; rfl)); intro gb136 hg w12 hbox hb; have n0_ := Aside0.mk (blk_below (g := gb135) (o := .cells #[.int .i64 a0_0, .int .i64 a0_1, .int .i64 a0_2, .int .i64 a0_3, .int .i64 a0_4, .string a0_5, .slice A0_6 l0_6.length c0_6, .bool a0_7] 33 (0, 0)) (by (with_reducible repeat (first | refine blk_drewN ?_ _ | refine blk_drew ?_ | refine blk_alloc ?_ _)); exact BK135.out) hb); have n1_ := Aside0.mk (below_step (by repeat (first | (with_reducible first | exact HB.out | apply below_alloc | apply pw_below_drewN | apply below_drew1 | refine below_set ?_ GE135.out) | exact HB.out)) hb); have n2_ := Aside0.mk (hbox); have n3_ := Aside0.mk ((by rw [hg]; exact (below_size (by repeat (first | (with_reducible first | exact HB.out | apply below_alloc | apply pw_below_drewN | apply below_drew1 | refine below_set ?_ GE135.out) | exact HB.out))) : w.heap.size ≤ gb136)); have n4_ := Aside0.mk ((by rw [hg]; exact (below_size (by repeat (first | (with_reducible first | exact HB.out | apply below_alloc | apply pw_below_drewN | apply below_drew1 | refine below_set ?_ GE135.out) | exact HB.out))) : w.heap.size ≤ gb136)); have n5_ := Aside0.mk ((by rw [hg]; exact Nat.ne_of_lt (blk_lt (g := gb135) (o := .cells #[.int .i64 a0_0, .int .i64 a0_1, .int .i64 a0_2, .int .i64 a0_3, .int .i64 a0_4, .string a0_5, .slice A0_6 l0_6.length c0_6, .bool a0_7] 33 (0, 0)) (by (with_reducible repeat (first | refine blk_drewN ?_ _ | refine blk_drew ?_ | refine blk_alloc ?_ _)); exact BK135.out)) : gb135 ≠ gb136)); have n6_ := Aside0.mk ((by rw [hg]; exact Nat.ne_of_gt (blk_lt (g := gb135) (o := .cells #[.int .i64 a0_0, .int .i64 a0_1, .int .i64 a0_2, .int .i64 a0_3, .int .i64 a0_4, .string a0_5, .slice A0_6 l0_6.length c0_6, .bool a0_7] 33 (0, 0)) (by (with_reducible repeat (first | refine blk_drewN ?_ _ | refine blk_drew ?_ | refine blk_alloc ?_ _)); exact BK135.out)) : gb136 ≠ gb135)); clear BK135; clear HB; have BK135 := n0_; have HB := n1_; have BK136 := n2_; have GW136 := n3_; have GE136 := n4_; have NB135_136 := n5_; have NB136_135 := n6_; clear n0_ n1_ n2_ n3_ n4_ n5_ n6_; clear hb hbox hg; have hnb13 := NB135_136.out; have hnc13 := NB136_135.out; have hcz14_0 : w12.cell? ⟨gb135, 0, none⟩ = some (.int .i64 a0_0) := (blk_cell BK135.out 0).trans rfl; have hcz14_1 : w12.cell? ⟨gb135, 1, none⟩ = some (.int .i64 a0_1) := (blk_cell BK135.out 1).trans rfl; have hcz14_2 : w12.cell? ⟨gb135, 2, none⟩ = some (.int .i64 a0_2) := (blk_cell BK135.out 2).trans rfl; have hcz14_3 : w12.cell? ⟨gb135, 3, none⟩ = some (.int .i64 a0_3) := (blk_cell BK135.out 3).trans rfl; have hcz14_4 : w12.cell? ⟨gb135, 4, none⟩ = some (.int .i64 a0_4) := (blk_cell BK135.out 4).trans rfl; have hcz14_5 : w12.cell? ⟨gb135, 5, none⟩ = some (.string a0_5) := (blk_cell BK135.out 5).trans rfl; have hcz14_6 : w12.cell? ⟨gb135, 6, none⟩ = some (.slice A0_6 l0_6.length c0_6) := (blk_cell BK135.out 6).trans rfl; have hcz14_7 : w12.cell? ⟨gb135, 7, none⟩ = some (.bool a0_7) := (blk_cell BK135.out 7).trans rfl; have hfz14_0 := blk_frozen BK135.out 0; have hfz14_1 := blk_frozen BK135.out 1; have hfz14_2 := blk_frozen BK135.out 2; have hfz14_3 := blk_frozen BK135.out 3; have hfz14_4 := blk_frozen BK135.out 4; have hfz14_5 := blk_frozen BK135.out 5; have hfz14_6 := blk_frozen BK135.out 6; have hfz14_7 := blk_frozen BK135.out 7; have hcz15_0 : w12.cell? ⟨gb136, 0, none⟩ = some (.int .i64 a1_0) := (blk_cell BK136.out 0).trans rfl; have hcz15_1 : w12.cell? ⟨gb136, 1, none⟩ = some (.int .i64 a1_1) := (blk_cell BK136.out 1).trans rfl; have hcz15_2 : w12.cell? ⟨gb136, 2, none⟩ = some (.int .i64 a1_2) := (blk_cell BK136.out 2).trans rfl; have hcz15_3 : w12.cell? ⟨gb136, 3, none⟩ = some (.int .i64 a1_3) := (blk_cell BK136.out 3).trans rfl; have hcz15_4 : w12.cell? ⟨gb136, 4, none⟩ = some (.int .i64 a1_4) := (blk_cell BK136.out 4).trans rfl; have hcz15_5 : w12.cell? ⟨gb136, 5, none⟩ = some (.string a1_5) := (blk_cell BK136.out 5).trans rfl; have hcz15_6 : w12.cell? ⟨gb136, 6, none⟩ = some (.slice A1_6 l1_6.length c1_6) := (blk_cell BK136.out 6).trans rfl; have hcz15_7 : w12.cell? ⟨gb136, 7, none⟩ = some (.bool a1_7) := (blk_cell BK136.out 7).trans rfl; have hfz15_0 := blk_frozen BK136.out 0; have hfz15_1 := blk_frozen BK136.out 1; have hfz15_2 := blk_frozen BK136.out 2; have hfz15_3 := blk_frozen BK136.out 3; have hfz15_4 := blk_frozen BK136.out 4; have hfz15_5 := blk_frozen BK136.out 5; have hfz15_6 := blk_frozen BK136.out 6; have hfz15_7 := blk_frozen BK136.out 7) | (go_at_call 20; (with_reducible refine (hallmarkref04_Ints.calls k _ _ l0_6 _ _ l1_6 t137 _ ?side1 ?side2 ?side3 ?side4 A10.out).mono ?_); (case side1 => repeat (first | exact (Kd.C_below HR0_6.out HB.out) | (with_reducible refine Kd.C_alloc ?_ _) | (with_reducible refine Kd.C_drewN ?_ _) | (with_reducible refine Kd.C_drew ?_))); (case side2 => exact HC0_6.out); (case side3 => repeat (first | exact (Kd.C_below HR1_6.out HB.out) | (with_reducible refine Kd.C_alloc ?_ _) | (with_reducible refine Kd.C_drewN ?_ _) | (with_reducible refine Kd.C_drew ?_))); (case side4 => exact HC1_6.out); rintro e w' ⟨rfl, ⟨nd, rfl⟩⟩))
                go_ret
                exact ⟨by first | rfl | (simp [errW_none, errW_some] <;> rfl) | (simp [*, errW_none, errW_some] <;> rfl), by repeat (first | (with_reducible first | exact HB.out | apply below_alloc | apply pw_below_drewN | apply below_drew1 | refine below_set ?_ GE135.out | refine below_set ?_ GE136.out) | exact HB.out)⟩
              · rw [if_neg c9] at H
                have c9b0 : (a0_7 == a1_7) = false := by simpa using c9
                (try (have c9b1 : decide (a0_7 = a1_7) = false := by simpa using c9))
                (try (have c9b2 : (a0_7 == a1_7) = false := by simpa using c9))
                (try (have c9b3 : ¬ (a0_7 = a1_7) := by simpa using c9))
                clear c9
                obtain rfl := Option.some.inj H
                go_enter Tryd.func17, Tryd.ntmps17
                go_wp2_with (first | ((with_reducible refine gate_dst (N := 2) rfl ?_); refine box_event ?hg (N := 2) ?hd (cs := #[.int .i64 a0_0, .int .i64 a0_1, .int .i64 a0_2, .int .i64 a0_3, .int .i64 a0_4, .string a0_5, .slice A0_6 l0_6.length c0_6, .bool a0_7]) (t := 33) ?hr ?_; (case hd => rfl); (case hg => rfl); (case hr => first | (go_simp; done) | (go_simp; rfl)); intro gb135 hg w16 hbox hb; have n0_ := Aside0.mk (below_step (by repeat (first | (with_reducible first | exact HB.out | apply below_alloc | apply pw_below_drewN | apply below_drew1) | exact HB.out)) hb); have n1_ := Aside0.mk (hbox); have n2_ := Aside0.mk ((by rw [hg]; exact (below_size (by repeat (first | (with_reducible first | exact HB.out | apply below_alloc | apply pw_below_drewN | apply below_drew1) | exact HB.out))) : w.heap.size ≤ gb135)); have n3_ := Aside0.mk ((by rw [hg]; exact (below_size (by repeat (first | (with_reducible first | exact HB.out | apply below_alloc | apply pw_below_drewN | apply below_drew1) | exact HB.out))) : w.heap.size ≤ gb135)); clear HB; have HB := n0_; have BK135 := n1_; have GW135 := n2_; have GE135 := n3_; clear n0_ n1_ n2_ n3_; clear hb hbox hg) | ((with_reducible refine gate_dst (N := 3) rfl ?_); refine box_event ?hg (N := 3) ?hd (cs := #[.int .i64 a1_0, .int .i64 a1_1, .int .i64 a1_2, .int .i64 a1_3, .int .i64 a1_4, .string a1_5, .slice A1_6 l1_6.length c1_6, .bool a1_7]) (t := 33) ?hr ?_; (case hd => rfl); (case hg => rfl); (case hr => first | (go_simp; done) | (go_simp; rfl)); intro gb136 hg w17 hbox hb; have n0_ := Aside0.mk (blk_below (g := gb135) (o := .cells #[.int .i64 a0_0, .int .i64 a0_1, .int .i64 a0_2, .int .i64 a0_3, .int .i64 a0_4, .string a0_5, .slice A0_6 l0_6.length c0_6, .bool a0_7] 33 (0, 0)) (by (with_reducible repeat (first | refine blk_drewN ?_ _ | refine blk_drew ?_ | refine blk_alloc ?_ _)); exact BK135.out) hb); have n1_ := Aside0.mk (below_step (by repeat (first | (with_reducible first | exact HB.out | apply below_alloc | apply pw_below_drewN | apply below_drew1 | refine below_set ?_ GE135.out) | exact HB.out)) hb); have n2_ := Aside0.mk (hbox); have n3_ := Aside0.mk ((by rw [hg]; exact (below_size (by repeat (first | (with_reducible first | exact HB.out | apply below_alloc | apply pw_below_drewN | apply below_drew1 | refine below_set ?_ GE135.out) | exact HB.out))) : w.heap.size ≤ gb136)); have n4_ := Aside0.mk ((by rw [hg]; exact (below_size (by repeat (first | (with_reducible first | exact HB.out | apply below_alloc | apply pw_below_drewN | apply below_drew1 | refine below_set ?_ GE135.out) | exact HB.out))) : w.heap.size ≤ gb136)); have n5_ := Aside0.mk ((by rw [hg]; exact Nat.ne_of_lt (blk_lt (g := gb135) (o := .cells #[.int .i64 a0_0, .int .i64 a0_1, .int .i64 a0_2, .int .i64 a0_3, .int .i64 a0_4, .string a0_5, .slice A0_6 l0_6.length c0_6, .bool a0_7] 33 (0, 0)) (by (with_reducible repeat (first | refine blk_drewN ?_ _ | refine blk_drew ?_ | refine blk_alloc ?_ _)); exact BK135.out)) : gb135 ≠ gb136)); have n6_ := Aside0.mk ((by rw [hg]; exact Nat.ne_of_gt (blk_lt (g := gb135) (o := .cells #[.int .i64 a0_0, .int .i64 a0_1, .int .i64 a0_2, .int .i64 a0_3, .int .i64 a0_4, .string a0_5, .slice A0_6 l0_6.length c0_6, .bool a0_7] 33 (0, 0)) (by (with_reducible repeat (first | refine blk_drewN ?_ _ | refine blk_drew ?_ | refine blk_alloc ?_ _)); exact BK135.out)) : gb136 ≠ gb135)); clear BK135; clear HB; have BK135 := n0_; have HB := n1_; have BK136 := n2_; have GW136 := n3_; have GE136 := n4_; have NB135_136 := n5_; have NB136_135 := n6_; clear n0_ n1_ n2_ n3_ n4_ n5_ n6_; clear hb hbox hg; have hnb18 := NB135_136.out; have hnc18 := NB136_135.out; have hcz19_0 : w17.cell? ⟨gb135, 0, none⟩ = some (.int .i64 a0_0) := (blk_cell BK135.out 0).trans rfl; have hcz19_1 : w17.cell? ⟨gb135, 1, none⟩ = some (.int .i64 a0_1) := (blk_cell BK135.out 1).trans rfl; have hcz19_2 : w17.cell? ⟨gb135, 2, none⟩ = some (.int .i64 a0_2) := (blk_cell BK135.out 2).trans rfl; have hcz19_3 : w17.cell? ⟨gb135, 3, none⟩ = some (.int .i64 a0_3) := (blk_cell BK135.out 3).trans rfl; have hcz19_4 : w17.cell? ⟨gb135, 4, none⟩ = some (.int .i64 a0_4) := (blk_cell BK135.out 4).trans rfl; have hcz19_5 : w17.cell? ⟨gb135, 5, none⟩ = some (.string a0_5) := (blk_cell BK135.out 5).trans rfl; have hcz19_6 : w17.cell? ⟨gb135, 6, none⟩ = some (.slice A0_6 l0_6.length c0_6) := (blk_cell BK135.out 6).trans rfl; have hcz19_7 : w17.cell? ⟨gb135, 7, none⟩ = some (.bool a0_7) := (blk_cell BK135.out 7).trans rfl; have hfz19_0 := blk_frozen BK135.out 0; have hfz19_1 := blk_frozen BK135.out 1; have hfz19_2 := blk_frozen BK135.out 2; have hfz19_3 := blk_frozen BK135.out 3; have hfz19_4 := blk_frozen BK135.out 4; have hfz19_5 := blk_frozen BK135.out 5; have hfz19_6 := blk_frozen BK135.out 6; have hfz19_7 := blk_frozen BK135.out 7; have hcz20_0 : w17.cell? ⟨gb136, 0, none⟩ = some (.int .i64 a1_0) := (blk_cell BK136.out 0).trans rfl; have hcz20_1 : w17.cell? ⟨gb136, 1, none⟩ = some (.int .i64 a1_1) := (blk_cell BK136.out 1).trans rfl; have hcz20_2 : w17.cell? ⟨gb136, 2, none⟩ = some (.int .i64 a1_2) := (blk_cell BK136.out 2).trans rfl; have hcz20_3 : w17.cell? ⟨gb136, 3, none⟩ = some (.int .i64 a1_3) := (blk_cell BK136.out 3).trans rfl; have hcz20_4 : w17.cell? ⟨gb136, 4, none⟩ = some (.int .i64 a1_4) := (blk_cell BK136.out 4).trans rfl; have hcz20_5 : w17.cell? ⟨gb136, 5, none⟩ = some (.string a1_5) := (blk_cell BK136.out 5).trans rfl; have hcz20_6 : w17.cell? ⟨gb136, 6, none⟩ = some (.slice A1_6 l1_6.length c1_6) := (blk_cell BK136.out 6).trans rfl; have hcz20_7 : w17.cell? ⟨gb136, 7, none⟩ = some (.bool a1_7) := (blk_cell BK136.out 7).trans rfl; have hfz20_0 := blk_frozen BK136.out 0; have hfz20_1 := blk_frozen BK136.out 1; have hfz20_2 := blk_frozen BK136.out 2; have hfz20_3 := blk_frozen BK136.out 3; have hfz20_4 := blk_frozen BK136.out 4; have hfz20_5 := blk_frozen BK136.out 5; have hfz20_6 := blk_frozen BK136.out 6; have hfz20_7 := blk_frozen BK136.out 7))
                go_ret
                exact ⟨by first | rfl | (simp [errW_none, errW_some] <;> rfl) | (simp [*, errW_none, errW_some] <;> rfl), by repeat (first | (with_reducible first | exact HB.out | apply below_alloc | apply pw_below_drewN | apply below_drew1 | refine below_set ?_ GE135.out | refine below_set ?_ GE136.out) | exact HB.out)⟩
            · rw [if_neg c8] at H
              have c8b0 : (a0_5.toList == a1_5.toList) = false := beq_eq_false_iff_ne.mpr c8
              have c8b1 : (a0_5.toList != a1_5.toList) = true := bne_iff_ne.mpr c8
              obtain rfl := Option.some.inj H
              go_enter Tryd.func17, Tryd.ntmps17
              go_wp2_with (first | ((with_reducible refine gate_dst (N := 2) rfl ?_); refine box_event ?hg (N := 2) ?hd (cs := #[.int .i64 a0_0, .int .i64 a0_1, .int .i64 a0_2, .int .i64 a0_3, .int .i64 a0_4, .string a0_5, .slice A0_6 l0_6.length c0_6, .bool a0_7]) (t := 33) ?hr ?_; (case hd => rfl); (case hg => rfl); (case hr => first | (go_simp; done) | (go_simp; rfl)); intro gb135 hg w21 hbox hb; have n0_ := Aside0.mk (below_step (by repeat (first | (with_reducible first | exact HB.out | apply below_alloc | apply pw_below_drewN | apply below_drew1) | exact HB.out)) hb); have n1_ := Aside0.mk (hbox); have n2_ := Aside0.mk ((by rw [hg]; exact (below_size (by repeat (first | (with_reducible first | exact HB.out | apply below_alloc | apply pw_below_drewN | apply below_drew1) | exact HB.out))) : w.heap.size ≤ gb135)); have n3_ := Aside0.mk ((by rw [hg]; exact (below_size (by repeat (first | (with_reducible first | exact HB.out | apply below_alloc | apply pw_below_drewN | apply below_drew1) | exact HB.out))) : w.heap.size ≤ gb135)); clear HB; have HB := n0_; have BK135 := n1_; have GW135 := n2_; have GE135 := n3_; clear n0_ n1_ n2_ n3_; clear hb hbox hg) | ((with_reducible refine gate_dst (N := 3) rfl ?_); refine box_event ?hg (N := 3) ?hd (cs := #[.int .i64 a1_0, .int .i64 a1_1, .int .i64 a1_2, .int .i64 a1_3, .int .i64 a1_4, .string a1_5, .slice A1_6 l1_6.length c1_6, .bool a1_7]) (t := 33) ?hr ?_; (case hd => rfl); (case hg => rfl); (case hr => first | (go_simp; done) | (go_simp; rfl)); intro gb136 hg w22 hbox hb; have n0_ := Aside0.mk (blk_below (g := gb135) (o := .cells #[.int .i64 a0_0, .int .i64 a0_1, .int .i64 a0_2, .int .i64 a0_3, .int .i64 a0_4, .string a0_5, .slice A0_6 l0_6.length c0_6, .bool a0_7] 33 (0, 0)) (by (with_reducible repeat (first | refine blk_drewN ?_ _ | refine blk_drew ?_ | refine blk_alloc ?_ _)); exact BK135.out) hb); have n1_ := Aside0.mk (below_step (by repeat (first | (with_reducible first | exact HB.out | apply below_alloc | apply pw_below_drewN | apply below_drew1 | refine below_set ?_ GE135.out) | exact HB.out)) hb); have n2_ := Aside0.mk (hbox); have n3_ := Aside0.mk ((by rw [hg]; exact (below_size (by repeat (first | (with_reducible first | exact HB.out | apply below_alloc | apply pw_below_drewN | apply below_drew1 | refine below_set ?_ GE135.out) | exact HB.out))) : w.heap.size ≤ gb136)); have n4_ := Aside0.mk ((by rw [hg]; exact (below_size (by repeat (first | (with_reducible first | exact HB.out | apply below_alloc | apply pw_below_drewN | apply below_drew1 | refine below_set ?_ GE135.out) | exact HB.out))) : w.heap.size ≤ gb136)); have n5_ := Aside0.mk ((by rw [hg]; exact Nat.ne_of_lt (blk_lt (g := gb135) (o := .cells #[.int .i64 a0_0, .int .i64 a0_1, .int .i64 a0_2, .int .i64 a0_3, .int .i64 a0_4, .string a0_5, .slice A0_6 l0_6.length c0_6, .bool a0_7] 33 (0, 0)) (by (with_reducible repeat (first | refine blk_drewN ?_ _ | refine blk_drew ?_ | refine blk_alloc ?_ _)); exact BK135.out)) : gb135 ≠ gb136)); have n6_ := Aside0.mk ((by rw [hg]; exact Nat.ne_of_gt (blk_lt (g := gb135) (o := .cells #[.int .i64 a0_0, .int .i64 a0_1, .int .i64 a0_2, .int .i64 a0_3, .int .i64 a0_4, .string a0_5, .slice A0_6 l0_6.length c0_6, .bool a0_7] 33 (0, 0)) (by (with_reducible repeat (first | refine blk_drewN ?_ _ | refine blk_drew ?_ | refine blk_alloc ?_ _)); exact BK135.out)) : gb136 ≠ gb135)); clear BK135; clear HB; have BK135 := n0_; have HB := n1_; have BK136 := n2_; have GW136 := n3_; have GE136 := n4_; have NB135_136 := n5_; have NB136_135 := n6_; clear n0_ n1_ n2_ n3_ n4_ n5_ n6_; clear hb hbox hg; have hnb23 := NB135_136.out; have hnc23 := NB136_135.out; have hcz24_0 : w22.cell? ⟨gb135, 0, none⟩ = some (.int .i64 a0_0) := (blk_cell BK135.out 0).trans rfl; have hcz24_1 : w22.cell? ⟨gb135, 1, none⟩ = some (.int .i64 a0_1) := (blk_cell BK135.out 1).trans rfl; have hcz24_2 : w22.cell? ⟨gb135, 2, none⟩ = some (.int .i64 a0_2) := (blk_cell BK135.out 2).trans rfl; have hcz24_3 : w22.cell? ⟨gb135, 3, none⟩ = some (.int .i64 a0_3) := (blk_cell BK135.out 3).trans rfl; have hcz24_4 : w22.cell? ⟨gb135, 4, none⟩ = some (.int .i64 a0_4) := (blk_cell BK135.out 4).trans rfl; have hcz24_5 : w22.cell? ⟨gb135, 5, none⟩ = some (.string a0_5) := (blk_cell BK135.out 5).trans rfl; have hcz24_6 : w22.cell? ⟨gb135, 6, none⟩ = some (.slice A0_6 l0_6.length c0_6) := (blk_cell BK135.out 6).trans rfl; have hcz24_7 : w22.cell? ⟨gb135, 7, none⟩ = some (.bool a0_7) := (blk_cell BK135.out 7).trans rfl; have hfz24_0 := blk_frozen BK135.out 0; have hfz24_1 := blk_frozen BK135.out 1; have hfz24_2 := blk_frozen BK135.out 2; have hfz24_3 := blk_frozen BK135.out 3; have hfz24_4 := blk_frozen BK135.out 4; have hfz24_5 := blk_frozen BK135.out 5; have hfz24_6 := blk_frozen BK135.out 6; have hfz24_7 := blk_frozen BK135.out 7; have hcz25_0 : w22.cell? ⟨gb136, 0, none⟩ = some (.int .i64 a1_0) := (blk_cell BK136.out 0).trans rfl; have hcz25_1 : w22.cell? ⟨gb136, 1, none⟩ = some (.int .i64 a1_1) := (blk_cell BK136.out 1).trans rfl; have hcz25_2 : w22.cell? ⟨gb136, 2, none⟩ = some (.int .i64 a1_2) := (blk_cell BK136.out 2).trans rfl; have hcz25_3 : w22.cell? ⟨gb136, 3, none⟩ = some (.int .i64 a1_3) := (blk_cell BK136.out 3).trans rfl; have hcz25_4 : w22.cell? ⟨gb136, 4, none⟩ = some (.int .i64 a1_4) := (blk_cell BK136.out 4).trans rfl; have hcz25_5 : w22.cell? ⟨gb136, 5, none⟩ = some (.string a1_5) := (blk_cell BK136.out 5).trans rfl; have hcz25_6 : w22.cell? ⟨gb136, 6, none⟩ = some (.slice A1_6 l1_6.length c1_6) := (blk_cell BK136.out 6).trans rfl; have hcz25_7 : w22.cell? ⟨gb136, 7, none⟩ = some (.bool a1_7) := (blk_cell BK136.out 7).trans rfl; have hfz25_0 := blk_frozen BK136.out 0; have hfz25_1 := blk_frozen BK136.out 1; have hfz25_2 := blk_frozen BK136.out 2; have hfz25_3 := blk_frozen BK136.out 3; have hfz25_4 := blk_frozen BK136.out 4; have hfz25_5 := blk_frozen BK136.out 5; have hfz25_6 := blk_frozen BK136.out 6; have hfz25_7 := blk_frozen BK136.out 7))
              go_ret
              exact ⟨by first | rfl | (simp [errW_none, errW_some] <;> rfl) | (simp [*, errW_none, errW_some] <;> rfl), by repeat (first | (with_reducible first | exact HB.out | apply below_alloc | apply pw_below_drewN | apply below_drew1 | refine below_set ?_ GE135.out | refine below_set ?_ GE136.out) | exact HB.out)⟩
          · rw [if_neg c7] at H
            have c7b0 : (a0_4 == a1_4) = false := beq_eq_false_iff_ne.mpr c7
            have c7b1 : (a0_4 != a1_4) = true := bne_iff_ne.mpr c7
            obtain rfl := Option.some.inj H
            go_enter Tryd.func17, Tryd.ntmps17
            go_wp2_with (first | ((with_reducible refine gate_dst (N := 2) rfl ?_); refine box_event ?hg (N := 2) ?hd (cs := #[.int .i64 a0_0, .int .i64 a0_1, .int .i64 a0_2, .int .i64 a0_3, .int .i64 a0_4, .string a0_5, .slice A0_6 l0_6.length c0_6, .bool a0_7]) (t := 33) ?hr ?_; (case hd => rfl); (case hg => rfl); (case hr => first | (go_simp; done) | (go_simp; rfl)); intro gb135 hg w26 hbox hb; have n0_ := Aside0.mk (below_step (by repeat (first | (with_reducible first | exact HB.out | apply below_alloc | apply pw_below_drewN | apply below_drew1) | exact HB.out)) hb); have n1_ := Aside0.mk (hbox); have n2_ := Aside0.mk ((by rw [hg]; exact (below_size (by repeat (first | (with_reducible first | exact HB.out | apply below_alloc | apply pw_below_drewN | apply below_drew1) | exact HB.out))) : w.heap.size ≤ gb135)); have n3_ := Aside0.mk ((by rw [hg]; exact (below_size (by repeat (first | (with_reducible first | exact HB.out | apply below_alloc | apply pw_below_drewN | apply below_drew1) | exact HB.out))) : w.heap.size ≤ gb135)); clear HB; have HB := n0_; have BK135 := n1_; have GW135 := n2_; have GE135 := n3_; clear n0_ n1_ n2_ n3_; clear hb hbox hg) | ((with_reducible refine gate_dst (N := 3) rfl ?_); refine box_event ?hg (N := 3) ?hd (cs := #[.int .i64 a1_0, .int .i64 a1_1, .int .i64 a1_2, .int .i64 a1_3, .int .i64 a1_4, .string a1_5, .slice A1_6 l1_6.length c1_6, .bool a1_7]) (t := 33) ?hr ?_; (case hd => rfl); (case hg => rfl); (case hr => first | (go_simp; done) | (go_simp; rfl)); intro gb136 hg w27 hbox hb; have n0_ := Aside0.mk (blk_below (g := gb135) (o := .cells #[.int .i64 a0_0, .int .i64 a0_1, .int .i64 a0_2, .int .i64 a0_3, .int .i64 a0_4, .string a0_5, .slice A0_6 l0_6.length c0_6, .bool a0_7] 33 (0, 0)) (by (with_reducible repeat (first | refine blk_drewN ?_ _ | refine blk_drew ?_ | refine blk_alloc ?_ _)); exact BK135.out) hb); have n1_ := Aside0.mk (below_step (by repeat (first | (with_reducible first | exact HB.out | apply below_alloc | apply pw_below_drewN | apply below_drew1 | refine below_set ?_ GE135.out) | exact HB.out)) hb); have n2_ := Aside0.mk (hbox); have n3_ := Aside0.mk ((by rw [hg]; exact (below_size (by repeat (first | (with_reducible first | exact HB.out | apply below_alloc | apply pw_below_drewN | apply below_drew1 | refine below_set ?_ GE135.out) | exact HB.out))) : w.heap.size ≤ gb136)); have n4_ := Aside0.mk ((by rw [hg]; exact (below_size (by repeat (first | (with_reducible first | exact HB.out | apply below_alloc | apply pw_below_drewN | apply below_drew1 | refine below_set ?_ GE135.out) | exact HB.out))) : w.heap.size ≤ gb136)); have n5_ := Aside0.mk ((by rw [hg]; exact Nat.ne_of_lt (blk_lt (g := gb135) (o := .cells #[.int .i64 a0_0, .int .i64 a0_1, .int .i64 a0_2, .int .i64 a0_3, .int .i64 a0_4, .string a0_5, .slice A0_6 l0_6.length c0_6, .bool a0_7] 33 (0, 0)) (by (with_reducible repeat (first | refine blk_drewN ?_ _ | refine blk_drew ?_ | refine blk_alloc ?_ _)); exact BK135.out)) : gb135 ≠ gb136)); have n6_ := Aside0.mk ((by rw [hg]; exact Nat.ne_of_gt (blk_lt (g := gb135) (o := .cells #[.int .i64 a0_0, .int .i64 a0_1, .int .i64 a0_2, .int .i64 a0_3, .int .i64 a0_4, .string a0_5, .slice A0_6 l0_6.length c0_6, .bool a0_7] 33 (0, 0)) (by (with_reducible repeat (first | refine blk_drewN ?_ _ | refine blk_drew ?_ | refine blk_alloc ?_ _)); exact BK135.out)) : gb136 ≠ gb135)); clear BK135; clear HB; have BK135 := n0_; have HB := n1_; have BK136 := n2_; have GW136 := n3_; have GE136 := n4_; have NB135_136 := n5_; have NB136_135 := n6_; clear n0_ n1_ n2_ n3_ n4_ n5_ n6_; clear hb hbox hg; have hnb28 := NB135_136.out; have hnc28 := NB136_135.out; have hcz29_0 : w27.cell? ⟨gb135, 0, none⟩ = some (.int .i64 a0_0) := (blk_cell BK135.out 0).trans rfl; have hcz29_1 : w27.cell? ⟨gb135, 1, none⟩ = some (.int .i64 a0_1) := (blk_cell BK135.out 1).trans rfl; have hcz29_2 : w27.cell? ⟨gb135, 2, none⟩ = some (.int .i64 a0_2) := (blk_cell BK135.out 2).trans rfl; have hcz29_3 : w27.cell? ⟨gb135, 3, none⟩ = some (.int .i64 a0_3) := (blk_cell BK135.out 3).trans rfl; have hcz29_4 : w27.cell? ⟨gb135, 4, none⟩ = some (.int .i64 a0_4) := (blk_cell BK135.out 4).trans rfl; have hcz29_5 : w27.cell? ⟨gb135, 5, none⟩ = some (.string a0_5) := (blk_cell BK135.out 5).trans rfl; have hcz29_6 : w27.cell? ⟨gb135, 6, none⟩ = some (.slice A0_6 l0_6.length c0_6) := (blk_cell BK135.out 6).trans rfl; have hcz29_7 : w27.cell? ⟨gb135, 7, none⟩ = some (.bool a0_7) := (blk_cell BK135.out 7).trans rfl; have hfz29_0 := blk_frozen BK135.out 0; have hfz29_1 := blk_frozen BK135.out 1; have hfz29_2 := blk_frozen BK135.out 2; have hfz29_3 := blk_frozen BK135.out 3; have hfz29_4 := blk_frozen BK135.out 4; have hfz29_5 := blk_frozen BK135.out 5; have hfz29_6 := blk_frozen BK135.out 6; have hfz29_7 := blk_frozen BK135.out 7; have hcz30_0 : w27.cell? ⟨gb136, 0, none⟩ = some (.int .i64 a1_0) := (blk_cell BK136.out 0).trans rfl; have hcz30_1 : w27.cell? ⟨gb136, 1, none⟩ = some (.int .i64 a1_1) := (blk_cell BK136.out 1).trans rfl; have hcz30_2 : w27.cell? ⟨gb136, 2, none⟩ = some (.int .i64 a1_2) := (blk_cell BK136.out 2).trans rfl; have hcz30_3 : w27.cell? ⟨gb136, 3, none⟩ = some (.int .i64 a1_3) := (blk_cell BK136.out 3).trans rfl; have hcz30_4 : w27.cell? ⟨gb136, 4, none⟩ = some (.int .i64 a1_4) := (blk_cell BK136.out 4).trans rfl; have hcz30_5 : w27.cell? ⟨gb136, 5, none⟩ = some (.string a1_5) := (blk_cell BK136.out 5).trans rfl; have hcz30_6 : w27.cell? ⟨gb136, 6, none⟩ = some (.slice A1_6 l1_6.length c1_6) := (blk_cell BK136.out 6).trans rfl; have hcz30_7 : w27.cell? ⟨gb136, 7, none⟩ = some (.bool a1_7) := (blk_cell BK136.out 7).trans rfl; have hfz30_0 := blk_frozen BK136.out 0; have hfz30_1 := blk_frozen BK136.out 1; have hfz30_2 := blk_frozen BK136.out 2; have hfz30_3 := blk_frozen BK136.out 3; have hfz30_4 := blk_frozen BK136.out 4; have hfz30_5 := blk_frozen BK136.out 5; have hfz30_6 := blk_frozen BK136.out 6; have hfz30_7 := blk_frozen BK136.out 7))
            go_ret
            exact ⟨by first | rfl | (simp [errW_none, errW_some] <;> rfl) | (simp [*, errW_none, errW_some] <;> rfl), by repeat (first | (with_reducible first | exact HB.out | apply below_alloc | apply pw_below_drewN | apply below_drew1 | refine below_set ?_ GE135.out | refine below_set ?_ GE136.out) | exact HB.out)⟩
        · rw [if_neg c6] at H
          have c6b0 : (a0_3 == a1_3) = false := beq_eq_false_iff_ne.mpr c6
          have c6b1 : (a0_3 != a1_3) = true := bne_iff_ne.mpr c6
          obtain rfl := Option.some.inj H
          go_enter Tryd.func17, Tryd.ntmps17
          go_wp2_with (first | ((with_reducible refine gate_dst (N := 2) rfl ?_); refine box_event ?hg (N := 2) ?hd (cs := #[.int .i64 a0_0, .int .i64 a0_1, .int .i64 a0_2, .int .i64 a0_3, .int .i64 a0_4, .string a0_5, .slice A0_6 l0_6.length c0_6, .bool a0_7]) (t := 33) ?hr ?_; (case hd => rfl); (case hg => rfl); (case hr => first | (go_simp; done) | (go_simp; rfl)); intro gb135 hg w31 hbox hb; have n0_ := Aside0.mk (below_step (by repeat (first | (with_reducible first | exact HB.out | apply below_alloc | apply pw_below_drewN | apply below_drew1) | exact HB.out)) hb); have n1_ := Aside0.mk (hbox); have n2_ := Aside0.mk ((by rw [hg]; exact (below_size (by repeat (first | (with_reducible first | exact HB.out | apply below_alloc | apply pw_below_drewN | apply below_drew1) | exact HB.out))) : w.heap.size ≤ gb135)); have n3_ := Aside0.mk ((by rw [hg]; exact (below_size (by repeat (first | (with_reducible first | exact HB.out | apply below_alloc | apply pw_below_drewN | apply below_drew1) | exact HB.out))) : w.heap.size ≤ gb135)); clear HB; have HB := n0_; have BK135 := n1_; have GW135 := n2_; have GE135 := n3_; clear n0_ n1_ n2_ n3_; clear hb hbox hg) | ((with_reducible refine gate_dst (N := 3) rfl ?_); refine box_event ?hg (N := 3) ?hd (cs := #[.int .i64 a1_0, .int .i64 a1_1, .int .i64 a1_2, .int .i64 a1_3, .int .i64 a1_4, .string a1_5, .slice A1_6 l1_6.length c1_6, .bool a1_7]) (t := 33) ?hr ?_; (case hd => rfl); (case hg => rfl); (case hr => first | (go_simp; done) | (go_simp; rfl)); intro gb136 hg w32 hbox hb; have n0_ := Aside0.mk (blk_below (g := gb135) (o := .cells #[.int .i64 a0_0, .int .i64 a0_1, .int .i64 a0_2, .int .i64 a0_3, .int .i64 a0_4, .string a0_5, .slice A0_6 l0_6.length c0_6, .bool a0_7] 33 (0, 0)) (by (with_reducible repeat (first | refine blk_drewN ?_ _ | refine blk_drew ?_ | refine blk_alloc ?_ _)); exact BK135.out) hb); have n1_ := Aside0.mk (below_step (by repeat (first | (with_reducible first | exact HB.out | apply below_alloc | apply pw_below_drewN | apply below_drew1 | refine below_set ?_ GE135.out) | exact HB.out)) hb); have n2_ := Aside0.mk (hbox); have n3_ := Aside0.mk ((by rw [hg]; exact (below_size (by repeat (first | (with_reducible first | exact HB.out | apply below_alloc | apply pw_below_drewN | apply below_drew1 | refine below_set ?_ GE135.out) | exact HB.out))) : w.heap.size ≤ gb136)); have n4_ := Aside0.mk ((by rw [hg]; exact (below_size (by repeat (first | (with_reducible first | exact HB.out | apply below_alloc | apply pw_below_drewN | apply below_drew1 | refine below_set ?_ GE135.out) | exact HB.out))) : w.heap.size ≤ gb136)); have n5_ := Aside0.mk ((by rw [hg]; exact Nat.ne_of_lt (blk_lt (g := gb135) (o := .cells #[.int .i64 a0_0, .int .i64 a0_1, .int .i64 a0_2, .int .i64 a0_3, .int .i64 a0_4, .string a0_5, .slice A0_6 l0_6.length c0_6, .bool a0_7] 33 (0, 0)) (by (with_reducible repeat (first | refine blk_drewN ?_ _ | refine blk_drew ?_ | refine blk_alloc ?_ _)); exact BK135.out)) : gb135 ≠ gb136)); have n6_ := Aside0.mk ((by rw [hg]; exact Nat.ne_of_gt (blk_lt (g := gb135) (o := .cells #[.int .i64 a0_0, .int .i64 a0_1, .int .i64 a0_2, .int .i64 a0_3, .int .i64 a0_4, .string a0_5, .slice A0_6 l0_6.length c0_6, .bool a0_7] 33 (0, 0)) (by (with_reducible repeat (first | refine blk_drewN ?_ _ | refine blk_drew ?_ | refine blk_alloc ?_ _)); exact BK135.out)) : gb136 ≠ gb135)); clear BK135; clear HB; have BK135 := n0_; have HB := n1_; have BK136 := n2_; have GW136 := n3_; have GE136 := n4_; have NB135_136 := n5_; have NB136_135 := n6_; clear n0_ n1_ n2_ n3_ n4_ n5_ n6_; clear hb hbox hg; have hnb33 := NB135_136.out; have hnc33 := NB136_135.out; have hcz34_0 : w32.cell? ⟨gb135, 0, none⟩ = some (.int .i64 a0_0) := (blk_cell BK135.out 0).trans rfl; have hcz34_1 : w32.cell? ⟨gb135, 1, none⟩ = some (.int .i64 a0_1) := (blk_cell BK135.out 1).trans rfl; have hcz34_2 : w32.cell? ⟨gb135, 2, none⟩ = some (.int .i64 a0_2) := (blk_cell BK135.out 2).trans rfl; have hcz34_3 : w32.cell? ⟨gb135, 3, none⟩ = some (.int .i64 a0_3) := (blk_cell BK135.out 3).trans rfl; have hcz34_4 : w32.cell? ⟨gb135, 4, none⟩ = some (.int .i64 a0_4) := (blk_cell BK135.out 4).trans rfl; have hcz34_5 : w32.cell? ⟨gb135, 5, none⟩ = some (.string a0_5) := (blk_cell BK135.out 5).trans rfl; have hcz34_6 : w32.cell? ⟨gb135, 6, none⟩ = some (.slice A0_6 l0_6.length c0_6) := (blk_cell BK135.out 6).trans rfl; have hcz34_7 : w32.cell? ⟨gb135, 7, none⟩ = some (.bool a0_7) := (blk_cell BK135.out 7).trans rfl; have hfz34_0 := blk_frozen BK135.out 0; have hfz34_1 := blk_frozen BK135.out 1; have hfz34_2 := blk_frozen BK135.out 2; have hfz34_3 := blk_frozen BK135.out 3; have hfz34_4 := blk_frozen BK135.out 4; have hfz34_5 := blk_frozen BK135.out 5; have hfz34_6 := blk_frozen BK135.out 6; have hfz34_7 := blk_frozen BK135.out 7; have hcz35_0 : w32.cell? ⟨gb136, 0, none⟩ = some (.int .i64 a1_0) := (blk_cell BK136.out 0).trans rfl; have hcz35_1 : w32.cell? ⟨gb136, 1, none⟩ = some (.int .i64 a1_1) := (blk_cell BK136.out 1).trans rfl; have hcz35_2 : w32.cell? ⟨gb136, 2, none⟩ = some (.int .i64 a1_2) := (blk_cell BK136.out 2).trans rfl; have hcz35_3 : w32.cell? ⟨gb136, 3, none⟩ = some (.int .i64 a1_3) := (blk_cell BK136.out 3).trans rfl; have hcz35_4 : w32.cell? ⟨gb136, 4, none⟩ = some (.int .i64 a1_4) := (blk_cell BK136.out 4).trans rfl; have hcz35_5 : w32.cell? ⟨gb136, 5, none⟩ = some (.string a1_5) := (blk_cell BK136.out 5).trans rfl; have hcz35_6 : w32.cell? ⟨gb136, 6, none⟩ = some (.slice A1_6 l1_6.length c1_6) := (blk_cell BK136.out 6).trans rfl; have hcz35_7 : w32.cell? ⟨gb136, 7, none⟩ = some (.bool a1_7) := (blk_cell BK136.out 7).trans rfl; have hfz35_0 := blk_frozen BK136.out 0; have hfz35_1 := blk_frozen BK136.out 1; have hfz35_2 := blk_frozen BK136.out 2; have hfz35_3 := blk_frozen BK136.out 3; have hfz35_4 := blk_frozen BK136.out 4; have hfz35_5 := blk_frozen BK136.out 5; have hfz35_6 := blk_frozen BK136.out 6; have hfz35_7 := blk_frozen BK136.out 7))
          go_ret
          exact ⟨by first | rfl | (simp [errW_none, errW_some] <;> rfl) | (simp [*, errW_none, errW_some] <;> rfl), by repeat (first | (with_reducible first | exact HB.out | apply below_alloc | apply pw_below_drewN | apply below_drew1 | refine below_set ?_ GE135.out | refine below_set ?_ GE136.out) | exact HB.out)⟩
      · rw [if_neg c5] at H
        have c5b0 : (a0_2 == a1_2) = false := beq_eq_false_iff_ne.mpr c5
        have c5b1 : (a0_2 != a1_2) = true := bne_iff_ne.mpr c5
        obtain rfl := Option.some.inj H
        go_enter Tryd.func17, Tryd.ntmps17
        go_wp2_with (first | ((with_reducible refine gate_dst (N := 2) rfl ?_); refine box_event ?hg (N := 2) ?hd (cs := #[.int .i64 a0_0, .int .i64 a0_1, .int .i64 a0_2, .int .i64 a0_3, .int .i64 a0_4, .string a0_5, .slice A0_6 l0_6.length c0_6, .bool a0_7]) (t := 33) ?hr ?_; (case hd => rfl); (case hg => rfl); (case hr => first | (go_simp; done) | (go_simp; rfl)); intro gb135 hg w36 hbox hb; have n0_ := Aside0.mk (below_step (by repeat (first | (with_reducible first | exact HB.out | apply below_alloc | apply pw_below_drewN | apply below_drew1) | exact HB.out)) hb); have n1_ := Aside0.mk (hbox); have n2_ := Aside0.mk ((by rw [hg]; exact (below_size (by repeat (first | (with_reducible first | exact HB.out | apply below_alloc | apply pw_below_drewN | apply below_drew1) | exact HB.out))) : w.heap.size ≤ gb135)); have n3_ := Aside0.mk ((by rw [hg]; exact (below_size (by repeat (first | (with_reducible first | exact HB.out | apply below_alloc | apply pw_below_drewN | apply below_drew1) | exact HB.out))) : w.heap.size ≤ gb135)); clear HB; have HB := n0_; have BK135 := n1_; have GW135 := n2_; have GE135 := n3_; clear n0_ n1_ n2_ n3_; clear hb hbox hg) | ((with_reducible refine gate_dst (N := 3) rfl ?_); refine box_event ?hg (N := 3) ?hd (cs := #[.int .i64 a1_0, .int .i64 a1_1, .int .i64 a1_2, .int .i64 a1_3, .int .i64 a1_4, .string a1_5, .slice A1_6 l1_6.length c1_6, .bool a1_7]) (t := 33) ?hr ?_; (case hd => rfl); (case hg => rfl); (case hr => first | (go_simp; done) | (go_simp; rfl)); intro gb136 hg w37 hbox hb; have n0_ := Aside0.mk (blk_below (g := gb135) (o := .cells #[.int .i64 a0_0, .int .i64 a0_1, .int .i64 a0_2, .int .i64 a0_3, .int .i64 a0_4, .string a0_5, .slice A0_6 l0_6.length c0_6, .bool a0_7] 33 (0, 0)) (by (with_reducible repeat (first | refine blk_drewN ?_ _ | refine blk_drew ?_ | refine blk_alloc ?_ _)); exact BK135.out) hb); have n1_ := Aside0.mk (below_step (by repeat (first | (with_reducible first | exact HB.out | apply below_alloc | apply pw_below_drewN | apply below_drew1 | refine below_set ?_ GE135.out) | exact HB.out)) hb); have n2_ := Aside0.mk (hbox); have n3_ := Aside0.mk ((by rw [hg]; exact (below_size (by repeat (first | (with_reducible first | exact HB.out | apply below_alloc | apply pw_below_drewN | apply below_drew1 | refine below_set ?_ GE135.out) | exact HB.out))) : w.heap.size ≤ gb136)); have n4_ := Aside0.mk ((by rw [hg]; exact (below_size (by repeat (first | (with_reducible first | exact HB.out | apply below_alloc | apply pw_below_drewN | apply below_drew1 | refine below_set ?_ GE135.out) | exact HB.out))) : w.heap.size ≤ gb136)); have n5_ := Aside0.mk ((by rw [hg]; exact Nat.ne_of_lt (blk_lt (g := gb135) (o := .cells #[.int .i64 a0_0, .int .i64 a0_1, .int .i64 a0_2, .int .i64 a0_3, .int .i64 a0_4, .string a0_5, .slice A0_6 l0_6.length c0_6, .bool a0_7] 33 (0, 0)) (by (with_reducible repeat (first | refine blk_drewN ?_ _ | refine blk_drew ?_ | refine blk_alloc ?_ _)); exact BK135.out)) : gb135 ≠ gb136)); have n6_ := Aside0.mk ((by rw [hg]; exact Nat.ne_of_gt (blk_lt (g := gb135) (o := .cells #[.int .i64 a0_0, .int .i64 a0_1, .int .i64 a0_2, .int .i64 a0_3, .int .i64 a0_4, .string a0_5, .slice A0_6 l0_6.length c0_6, .bool a0_7] 33 (0, 0)) (by (with_reducible repeat (first | refine blk_drewN ?_ _ | refine blk_drew ?_ | refine blk_alloc ?_ _)); exact BK135.out)) : gb136 ≠ gb135)); clear BK135; clear HB; have BK135 := n0_; have HB := n1_; have BK136 := n2_; have GW136 := n3_; have GE136 := n4_; have NB135_136 := n5_; have NB136_135 := n6_; clear n0_ n1_ n2_ n3_ n4_ n5_ n6_; clear hb hbox hg; have hnb38 := NB135_136.out; have hnc38 := NB136_135.out; have hcz39_0 : w37.cell? ⟨gb135, 0, none⟩ = some (.int .i64 a0_0) := (blk_cell BK135.out 0).trans rfl; have hcz39_1 : w37.cell? ⟨gb135, 1, none⟩ = some (.int .i64 a0_1) := (blk_cell BK135.out 1).trans rfl; have hcz39_2 : w37.cell? ⟨gb135, 2, none⟩ = some (.int .i64 a0_2) := (blk_cell BK135.out 2).trans rfl; have hcz39_3 : w37.cell? ⟨gb135, 3, none⟩ = some (.int .i64 a0_3) := (blk_cell BK135.out 3).trans rfl; have hcz39_4 : w37.cell? ⟨gb135, 4, none⟩ = some (.int .i64 a0_4) := (blk_cell BK135.out 4).trans rfl; have hcz39_5 : w37.cell? ⟨gb135, 5, none⟩ = some (.string a0_5) := (blk_cell BK135.out 5).trans rfl; have hcz39_6 : w37.cell? ⟨gb135, 6, none⟩ = some (.slice A0_6 l0_6.length c0_6) := (blk_cell BK135.out 6).trans rfl; have hcz39_7 : w37.cell? ⟨gb135, 7, none⟩ = some (.bool a0_7) := (blk_cell BK135.out 7).trans rfl; have hfz39_0 := blk_frozen BK135.out 0; have hfz39_1 := blk_frozen BK135.out 1; have hfz39_2 := blk_frozen BK135.out 2; have hfz39_3 := blk_frozen BK135.out 3; have hfz39_4 := blk_frozen BK135.out 4; have hfz39_5 := blk_frozen BK135.out 5; have hfz39_6 := blk_frozen BK135.out 6; have hfz39_7 := blk_frozen BK135.out 7; have hcz40_0 : w37.cell? ⟨gb136, 0, none⟩ = some (.int .i64 a1_0) := (blk_cell BK136.out 0).trans rfl; have hcz40_1 : w37.cell? ⟨gb136, 1, none⟩ = some (.int .i64 a1_1) := (blk_cell BK136.out 1).trans rfl; have hcz40_2 : w37.cell? ⟨gb136, 2, none⟩ = some (.int .i64 a1_2) := (blk_cell BK136.out 2).trans rfl; have hcz40_3 : w37.cell? ⟨gb136, 3, none⟩ = some (.int .i64 a1_3) := (blk_cell BK136.out 3).trans rfl; have hcz40_4 : w37.cell? ⟨gb136, 4, none⟩ = some (.int .i64 a1_4) := (blk_cell BK136.out 4).trans rfl; have hcz40_5 : w37.cell? ⟨gb136, 5, none⟩ = some (.string a1_5) := (blk_cell BK136.out 5).trans rfl; have hcz40_6 : w37.cell? ⟨gb136, 6, none⟩ = some (.slice A1_6 l1_6.length c1_6) := (blk_cell BK136.out 6).trans rfl; have hcz40_7 : w37.cell? ⟨gb136, 7, none⟩ = some (.bool a1_7) := (blk_cell BK136.out 7).trans rfl; have hfz40_0 := blk_frozen BK136.out 0; have hfz40_1 := blk_frozen BK136.out 1; have hfz40_2 := blk_frozen BK136.out 2; have hfz40_3 := blk_frozen BK136.out 3; have hfz40_4 := blk_frozen BK136.out 4; have hfz40_5 := blk_frozen BK136.out 5; have hfz40_6 := blk_frozen BK136.out 6; have hfz40_7 := blk_frozen BK136.out 7))
        go_ret
        exact ⟨by first | rfl | (simp [errW_none, errW_some] <;> rfl) | (simp [*, errW_none, errW_some] <;> rfl), by repeat (first | (with_reducible first | exact HB.out | apply below_alloc | apply pw_below_drewN | apply below_drew1 | refine below_set ?_ GE135.out | refine below_set ?_ GE136.out) | exact HB.out)⟩
    · rw [if_neg c4] at H
      have c4b0 : (a0_1 == a1_1) = false := beq_eq_false_iff_ne.mpr c4
      have c4b1 : (a0_1 != a1_1) = true := bne_iff_ne.mpr c4
      obtain rfl := Option.some.inj H
      go_enter Tryd.func17, Tryd.ntmps17
      go_wp2_with (first | ((with_reducible refine gate_dst (N := 2) rfl ?_); refine box_event ?hg (N := 2) ?hd (cs := #[.int .i64 a0_0, .int .i64 a0_1, .int .i64 a0_2, .int .i64 a0_3, .int .i64 a0_4, .string a0_5, .slice A0_6 l0_6.length c0_6, .bool a0_7]) (t := 33) ?hr ?_; (case hd => rfl); (case hg => rfl); (case hr => first | (go_simp; done) | (go_simp; rfl)); intro gb135 hg w41 hbox hb; have n0_ := Aside0.mk (below_step (by repeat (first | (with_reducible first | exact HB.out | apply below_alloc | apply pw_below_drewN | apply below_drew1) | exact HB.out)) hb); have n1_ := Aside0.mk (hbox); have n2_ := Aside0.mk ((by rw [hg]; exact (below_size (by repeat (first | (with_reducible first | exact HB.out | apply below_alloc | apply pw_below_drewN | apply below_drew1) | exact HB.out))) : w.heap.size ≤ gb135)); have n3_ := Aside0.mk ((by rw [hg]; exact (below_size (by repeat (first | (with_reducible first | exact HB.out | apply below_alloc | apply pw_below_drewN | apply below_drew1) | exact HB.out))) : w.heap.size ≤ gb135)); clear HB; have HB := n0_; have BK135 := n1_; have GW135 := n2_; have GE135 := n3_; clear n0_ n1_ n2_ n3_; clear hb hbox hg) | ((with_reducible refine gate_dst (N := 3) rfl ?_); refine box_event ?hg (N := 3) ?hd (cs := #[.int .i64 a1_0, .int .i64 a1_1, .int .i64 a1_2, .int .i64 a1_3, .int .i64 a1_4, .string a1_5, .slice A1_6 l1_6.length c1_6, .bool a1_7]) (t := 33) ?hr ?_; (case hd => rfl); (case hg => rfl); (case hr => first | (go_simp; done) | (go_simp; rfl)); intro gb136 hg w42 hbox hb; have n0_ := Aside0.mk (blk_below (g := gb135) (o := .cells #[.int .i64 a0_0, .int .i64 a0_1, .int .i64 a0_2, .int .i64 a0_3, .int .i64 a0_4, .string a0_5, .slice A0_6 l0_6.length c0_6, .bool a0_7] 33 (0, 0)) (by (with_reducible repeat (first | refine blk_drewN ?_ _ | refine blk_drew ?_ | refine blk_alloc ?_ _)); exact BK135.out) hb); have n1_ := Aside0.mk (below_step (by repeat (first | (with_reducible first | exact HB.out | apply below_alloc | apply pw_below_drewN | apply below_drew1 | refine below_set ?_ GE135.out) | exact HB.out)) hb); have n2_ := Aside0.mk (hbox); have n3_ := Aside0.mk ((by rw [hg]; exact (below_size (by repeat (first | (with_reducible first | exact HB.out | apply below_alloc | apply pw_below_drewN | apply below_drew1 | refine below_set ?_ GE135.out) | exact HB.out))) : w.heap.size ≤ gb136)); have n4_ := Aside0.mk ((by rw [hg]; exact (below_size (by repeat (first | (with_reducible first | exact HB.out | apply below_alloc | apply pw_below_drewN | apply below_drew1 | refine below_set ?_ GE135.out) | exact HB.out))) : w.heap.size ≤ gb136)); have n5_ := Aside0.mk ((by rw [hg]; exact Nat.ne_of_lt (blk_lt (g := gb135) (o := .cells #[.int .i64 a0_0, .int .i64 a0_1, .int .i64 a0_2, .int .i64 a0_3, .int .i64 a0_4, .string a0_5, .slice A0_6 l0_6.length c0_6, .bool a0_7] 33 (0, 0)) (by (with_reducible repeat (first | refine blk_drewN ?_ _ | refine blk_drew ?_ | refine blk_alloc ?_ _)); exact BK135.out)) : gb135 ≠ gb136)); have n6_ := Aside0.mk ((by rw [hg]; exact Nat.ne_of_gt (blk_lt (g := gb135) (o := .cells #[.int .i64 a0_0, .int .i64 a0_1, .int .i64 a0_2, .int .i64 a0_3, .int .i64 a0_4, .string a0_5, .slice A0_6 l0_6.length c0_6, .bool a0_7] 33 (0, 0)) (by (with_reducible repeat (first | refine blk_drewN ?_ _ | refine blk_drew ?_ | refine blk_alloc ?_ _)); exact BK135.out)) : gb136 ≠ gb135)); clear BK135; clear HB; have BK135 := n0_; have HB := n1_; have BK136 := n2_; have GW136 := n3_; have GE136 := n4_; have NB135_136 := n5_; have NB136_135 := n6_; clear n0_ n1_ n2_ n3_ n4_ n5_ n6_; clear hb hbox hg; have hnb43 := NB135_136.out; have hnc43 := NB136_135.out; have hcz44_0 : w42.cell? ⟨gb135, 0, none⟩ = some (.int .i64 a0_0) := (blk_cell BK135.out 0).trans rfl; have hcz44_1 : w42.cell? ⟨gb135, 1, none⟩ = some (.int .i64 a0_1) := (blk_cell BK135.out 1).trans rfl; have hcz44_2 : w42.cell? ⟨gb135, 2, none⟩ = some (.int .i64 a0_2) := (blk_cell BK135.out 2).trans rfl; have hcz44_3 : w42.cell? ⟨gb135, 3, none⟩ = some (.int .i64 a0_3) := (blk_cell BK135.out 3).trans rfl; have hcz44_4 : w42.cell? ⟨gb135, 4, none⟩ = some (.int .i64 a0_4) := (blk_cell BK135.out 4).trans rfl; have hcz44_5 : w42.cell? ⟨gb135, 5, none⟩ = some (.string a0_5) := (blk_cell BK135.out 5).trans rfl; have hcz44_6 : w42.cell? ⟨gb135, 6, none⟩ = some (.slice A0_6 l0_6.length c0_6) := (blk_cell BK135.out 6).trans rfl; have hcz44_7 : w42.cell? ⟨gb135, 7, none⟩ = some (.bool a0_7) := (blk_cell BK135.out 7).trans rfl; have hfz44_0 := blk_frozen BK135.out 0; have hfz44_1 := blk_frozen BK135.out 1; have hfz44_2 := blk_frozen BK135.out 2; have hfz44_3 := blk_frozen BK135.out 3; have hfz44_4 := blk_frozen BK135.out 4; have hfz44_5 := blk_frozen BK135.out 5; have hfz44_6 := blk_frozen BK135.out 6; have hfz44_7 := blk_frozen BK135.out 7; have hcz45_0 : w42.cell? ⟨gb136, 0, none⟩ = some (.int .i64 a1_0) := (blk_cell BK136.out 0).trans rfl; have hcz45_1 : w42.cell? ⟨gb136, 1, none⟩ = some (.int .i64 a1_1) := (blk_cell BK136.out 1).trans rfl; have hcz45_2 : w42.cell? ⟨gb136, 2, none⟩ = some (.int .i64 a1_2) := (blk_cell BK136.out 2).trans rfl; have hcz45_3 : w42.cell? ⟨gb136, 3, none⟩ = some (.int .i64 a1_3) := (blk_cell BK136.out 3).trans rfl; have hcz45_4 : w42.cell? ⟨gb136, 4, none⟩ = some (.int .i64 a1_4) := (blk_cell BK136.out 4).trans rfl; have hcz45_5 : w42.cell? ⟨gb136, 5, none⟩ = some (.string a1_5) := (blk_cell BK136.out 5).trans rfl; have hcz45_6 : w42.cell? ⟨gb136, 6, none⟩ = some (.slice A1_6 l1_6.length c1_6) := (blk_cell BK136.out 6).trans rfl; have hcz45_7 : w42.cell? ⟨gb136, 7, none⟩ = some (.bool a1_7) := (blk_cell BK136.out 7).trans rfl; have hfz45_0 := blk_frozen BK136.out 0; have hfz45_1 := blk_frozen BK136.out 1; have hfz45_2 := blk_frozen BK136.out 2; have hfz45_3 := blk_frozen BK136.out 3; have hfz45_4 := blk_frozen BK136.out 4; have hfz45_5 := blk_frozen BK136.out 5; have hfz45_6 := blk_frozen BK136.out 6; have hfz45_7 := blk_frozen BK136.out 7))
      go_ret
      exact ⟨by first | rfl | (simp [errW_none, errW_some] <;> rfl) | (simp [*, errW_none, errW_some] <;> rfl), by repeat (first | (with_reducible first | exact HB.out | apply below_alloc | apply pw_below_drewN | apply below_drew1 | refine below_set ?_ GE135.out | refine below_set ?_ GE136.out) | exact HB.out)⟩
  · rw [if_neg c3] at H
    have c3b0 : (a0_0 == a1_0) = false := beq_eq_false_iff_ne.mpr c3
    have c3b1 : (a0_0 != a1_0) = true := bne_iff_ne.mpr c3
    obtain rfl := Option.some.inj H
    go_enter Tryd.func17, Tryd.ntmps17
    go_wp2_with (first | ((with_reducible refine gate_dst (N := 2) rfl ?_); refine box_event ?hg (N := 2) ?hd (cs := #[.int .i64 a0_0, .int .i64 a0_1, .int .i64 a0_2, .int .i64 a0_3, .int .i64 a0_4, .string a0_5, .slice A0_6 l0_6.length c0_6, .bool a0_7]) (t := 33) ?hr ?_; (case hd => rfl); (case hg => rfl); (case hr => first | (go_simp; done) | (go_simp; rfl)); intro gb135 hg w46 hbox hb; have n0_ := Aside0.mk (below_step (by repeat (first | (with_reducible first | exact HB.out | apply below_alloc | apply pw_below_drewN | apply below_drew1) | exact HB.out)) hb); have n1_ := Aside0.mk (hbox); have n2_ := Aside0.mk ((by rw [hg]; exact (below_size (by repeat (first | (with_reducible first | exact HB.out | apply below_alloc | apply pw_below_drewN | apply below_drew1) | exact HB.out))) : w.heap.size ≤ gb135)); have n3_ := Aside0.mk ((by rw [hg]; exact (below_size (by repeat (first | (with_reducible first | exact HB.out | apply below_alloc | apply pw_below_drewN | apply below_drew1) | exact HB.out))) : w.heap.size ≤ gb135)); clear HB; have HB := n0_; have BK135 := n1_; have GW135 := n2_; have GE135 := n3_; clear n0_ n1_ n2_ n3_; clear hb hbox hg) | ((with_reducible refine gate_dst (N := 3) rfl ?_); refine box_event ?hg (N := 3) ?hd (cs := #[.int .i64 a1_0, .int .i64 a1_1, .int .i64 a1_2, .int .i64 a1_3, .int .i64 a1_4, .string a1_5, .slice A1_6 l1_6.length c1_6, .bool a1_7]) (t := 33) ?hr ?_; (case hd => rfl); (case hg => rfl); (case hr => first | (go_simp; done) | (go_simp; rfl)); intro gb136 hg w47 hbox hb; have n0_ := Aside0.mk (blk_below (g := gb135) (o := .cells #[.int .i64 a0_0, .int .i64 a0_1, .int .i64 a0_2, .int .i64 a0_3, .int .i64 a0_4, .string a0_5, .slice A0_6 l0_6.length c0_6, .bool a0_7] 33 (0, 0)) (by (with_reducible repeat (first | refine blk_drewN ?_ _ | refine blk_drew ?_ | refine blk_alloc ?_ _)); exact BK135.out) hb); have n1_ := Aside0.mk (below_step (by repeat (first | (with_reducible first | exact HB.out | apply below_alloc | apply pw_below_drewN | apply below_drew1 | refine below_set ?_ GE135.out) | exact HB.out)) hb); have n2_ := Aside0.mk (hbox); have n3_ := Aside0.mk ((by rw [hg]; exact (below_size (by repeat (first | (with_reducible first | exact HB.out | apply below_alloc | apply pw_below_drewN | apply below_drew1 | refine below_set ?_ GE135.out) | exact HB.out))) : w.heap.size ≤ gb136)); have n4_ := Aside0.mk ((by rw [hg]; exact (below_size (by repeat (first | (with_reducible first | exact HB.out | apply below_alloc | apply pw_below_drewN | apply below_drew1 | refine below_set ?_ GE135.out) | exact HB.out))) : w.heap.size ≤ gb136)); have n5_ := Aside0.mk ((by rw [hg]; exact Nat.ne_of_lt (blk_lt (g := gb135) (o := .cells #[.int .i64 a0_0, .int .i64 a0_1, .int .i64 a0_2, .int .i64 a0_3, .int .i64 a0_4, .string a0_5, .slice A0_6 l0_6.length c0_6, .bool a0_7] 33 (0, 0)) (by (with_reducible repeat (first | refine blk_drewN ?_ _ | refine blk_drew ?_ | refine blk_alloc ?_ _)); exact BK135.out)) : gb135 ≠ gb136)); have n6_ := Aside0.mk ((by rw [hg]; exact Nat.ne_of_gt (blk_lt (g := gb135) (o := .cells #[.int .i64 a0_0, .int .i64 a0_1, .int .i64 a0_2, .int .i64 a0_3, .int .i64 a0_4, .string a0_5, .slice A0_6 l0_6.length c0_6, .bool a0_7] 33 (0, 0)) (by (with_reducible repeat (first | refine blk_drewN ?_ _ | refine blk_drew ?_ | refine blk_alloc ?_ _)); exact BK135.out)) : gb136 ≠ gb135)); clear BK135; clear HB; have BK135 := n0_; have HB := n1_; have BK136 := n2_; have GW136 := n3_; have GE136 := n4_; have NB135_136 := n5_; have NB136_135 := n6_; clear n0_ n1_ n2_ n3_ n4_ n5_ n6_; clear hb hbox hg; have hnb48 := NB135_136.out; have hnc48 := NB136_135.out; have hcz49_0 : w47.cell? ⟨gb135, 0, none⟩ = some (.int .i64 a0_0) := (blk_cell BK135.out 0).trans rfl; have hcz49_1 : w47.cell? ⟨gb135, 1, none⟩ = some (.int .i64 a0_1) := (blk_cell BK135.out 1).trans rfl; have hcz49_2 : w47.cell? ⟨gb135, 2, none⟩ = some (.int .i64 a0_2) := (blk_cell BK135.out 2).trans rfl; have hcz49_3 : w47.cell? ⟨gb135, 3, none⟩ = some (.int .i64 a0_3) := (blk_cell BK135.out 3).trans rfl; have hcz49_4 : w47.cell? ⟨gb135, 4, none⟩ = some (.int .i64 a0_4) := (blk_cell BK135.out 4).trans rfl; have hcz49_5 : w47.cell? ⟨gb135, 5, none⟩ = some (.string a0_5) := (blk_cell BK135.out 5).trans rfl; have hcz49_6 : w47.cell? ⟨gb135, 6, none⟩ = some (.slice A0_6 l0_6.length c0_6) := (blk_cell BK135.out 6).trans rfl; have hcz49_7 : w47.cell? ⟨gb135, 7, none⟩ = some (.bool a0_7) := (blk_cell BK135.out 7).trans rfl; have hfz49_0 := blk_frozen BK135.out 0; have hfz49_1 := blk_frozen BK135.out 1; have hfz49_2 := blk_frozen BK135.out 2; have hfz49_3 := blk_frozen BK135.out 3; have hfz49_4 := blk_frozen BK135.out 4; have hfz49_5 := blk_frozen BK135.out 5; have hfz49_6 := blk_frozen BK135.out 6; have hfz49_7 := blk_frozen BK135.out 7; have hcz50_0 : w47.cell? ⟨gb136, 0, none⟩ = some (.int .i64 a1_0) := (blk_cell BK136.out 0).trans rfl; have hcz50_1 : w47.cell? ⟨gb136, 1, none⟩ = some (.int .i64 a1_1) := (blk_cell BK136.out 1).trans rfl; have hcz50_2 : w47.cell? ⟨gb136, 2, none⟩ = some (.int .i64 a1_2) := (blk_cell BK136.out 2).trans rfl; have hcz50_3 : w47.cell? ⟨gb136, 3, none⟩ = some (.int .i64 a1_3) := (blk_cell BK136.out 3).trans rfl; have hcz50_4 : w47.cell? ⟨gb136, 4, none⟩ = some (.int .i64 a1_4) := (blk_cell BK136.out 4).trans rfl; have hcz50_5 : w47.cell? ⟨gb136, 5, none⟩ = some (.string a1_5) := (blk_cell BK136.out 5).trans rfl; have hcz50_6 : w47.cell? ⟨gb136, 6, none⟩ = some (.slice A1_6 l1_6.length c1_6) := (blk_cell BK136.out 6).trans rfl; have hcz50_7 : w47.cell? ⟨gb136, 7, none⟩ = some (.bool a1_7) := (blk_cell BK136.out 7).trans rfl; have hfz50_0 := blk_frozen BK136.out 0; have hfz50_1 := blk_frozen BK136.out 1; have hfz50_2 := blk_frozen BK136.out 2; have hfz50_3 := blk_frozen BK136.out 3; have hfz50_4 := blk_frozen BK136.out 4; have hfz50_5 := blk_frozen BK136.out 5; have hfz50_6 := blk_frozen BK136.out 6; have hfz50_7 := blk_frozen BK136.out 7))
    go_ret
    exact ⟨by first | rfl | (simp [errW_none, errW_some] <;> rfl) | (simp [*, errW_none, errW_some] <;> rfl), by repeat (first | (with_reducible first | exact HB.out | apply below_alloc | apply pw_below_drewN | apply below_drew1 | refine below_set ?_ GE135.out | refine below_set ?_ GE136.out) | exact HB.out)⟩

/-! ### hallmarkref04_Has: function 29 -/
def hallmarkref04_Has.l0 : Nat → Int → ByteArray → Int → Option (Bool)
  | 0, _, _, _ => none
  | k + 1, x1, x5, x6 => if x6 < (x5.size : Int) then (if 0 ≤ x6 then (if (bt x5 x6) = x1 then (some true) else (hallmarkref04_Has.l0 k x1 x5 (wrap64 (x6 + 1)))) else (none)) else (some false)
def hallmarkref04_Has.f (k : Nat) (a0 : Int) (a1 : Int) : Option (Bool) := (hallmarkref04_Fields.f k a0).bind fun t138 => (hallmarkref04_Has.l0 k a1 t138 0)
theorem hallmarkref04_Has.mono_l : ∀ k, (∀ y0 y1 y2, LeO (hallmarkref04_Has.l0 k y0 y1 y2) (hallmarkref04_Has.l0 (k + 1) y0 y1 y2))
  | 0 => fun _ _ _ r h => by simp [hallmarkref04_Has.l0] at h
  | k + 1 => by
    have ih0 := hallmarkref04_Has.mono_l k
    · intro y0 y1 y2
      unfold hallmarkref04_Has.l0
      repeat' first
      | (with_reducible exact ih0 _ _ _)
      | (with_reducible exact hallmarkref04_Fields.mono _ _)
      | (with_reducible exact LeO.refl _)
      | (with_reducible exact LeO.none _)
      | (with_reducible refine LeO.ite ?_ ?_)
      | (with_reducible refine LeO.bind ?_ (fun _ => ?_))
      | exact ih0 _ _ _
      | exact hallmarkref04_Fields.mono _ _
      | exact LeO.none _
      | refine LeO.ite ?_ ?_
      | refine LeO.bind ?_ (fun _ => ?_)
theorem hallmarkref04_Has.mono : ∀ a0 a1 k, LeO (hallmarkref04_Has.f k a0 a1) (hallmarkref04_Has.f (k + 1) a0 a1) := by
  intro a0 a1 k
  have ih0 := hallmarkref04_Has.mono_l k
  unfold hallmarkref04_Has.f
  repeat' first
      | (with_reducible exact ih0 _ _ _)
      | (with_reducible exact hallmarkref04_Fields.mono _ _)
      | (with_reducible exact LeO.refl _)
      | (with_reducible exact LeO.none _)
      | (with_reducible refine LeO.ite ?_ ?_)
      | (with_reducible refine LeO.bind ?_ (fun _ => ?_))
      | exact ih0 _ _ _
      | exact hallmarkref04_Fields.mono _ _
      | exact LeO.none _
      | refine LeO.ite ?_ ?_
      | refine LeO.bind ?_ (fun _ => ?_)
set_option maxHeartbeats 8000000 in
set_option maxRecDepth 100000 in
theorem hallmarkref04_Has.calls (k : Nat) (a0 : Int) (a1 : Int) (r : Bool) (w : World) (h : hallmarkref04_Has.f k a0 a1 = some r) :
    Calls Tryd.prog 29 #[.int .i64 a0, .int .u8 a1] w fun e w' => e = .returned (.bool r) ∧ Drawn0 w w' := by
  have H : ((hallmarkref04_Fields.f k a0).bind fun t138 => (hallmarkref04_Has.l0 k a1 t138 0)) = some r := h
  clear h
  replace H := Option.bind_eq_some_iff.mp H
  obtain ⟨t138, A30, H⟩ := H
  replace H : (hallmarkref04_Has.l0 k a1 t138 0) = some r := H
  have A3 := Aside0.mk A30
  clear A30
  have H' := Aside0.mk H
  clear H
  go_enter Tryd.func29, Tryd.ntmps29
  go_wp2_with (first | ((with_reducible refine gate_callee (f := 16) rfl ?_); refine goesL_ (some 8) rfl rfl Tryd.func16 (by kernel_rfl) rfl #[.int .i64 a0] rfl (by (try simp only [List.map_toArray, List.map_cons, List.map_nil]); first | done | rfl | (simp only [List.length_drop, List.length_take]; rfl)) ?_; (with_reducible refine (hallmarkref04_Fields.calls k a0 t138 _ A3.out).mono ?_); rintro e w' ⟨rfl, ⟨nd, rfl⟩⟩; refine ⟨_, rfl, ?_⟩))
  go_loopg [6] k (fun kq v6 w' => ∃ (x6_1 : Int), v6 = .int .i64 x6_1 ∧ Aside0 (hallmarkref04_Has.l0 kq a1 t138 x6_1 = some r) ∧ Aside0 (kq ≤ k) ∧ Drawn0 w w')
  case atStart => exact ⟨(0), (by first | rfl | (simp; done) | (simp [*]; done) | (simp [*, wrap64]; done) | (simp [*]; unfold wrap64; omega)), H', ⟨Nat.le_refl _⟩, by repeat (first | exact Drawn0.refl _ | apply Drawn0.step)⟩
  case round =>
    clear H'
    try clear c1
    try clear c2
    try clear p2
    obtain ⟨x6_1, rfl, HA, HK1, ⟨m1, rfl⟩⟩ := hrel
    cases gk with
    | zero => exact absurd HA.out (by simp [hallmarkref04_Has.l0])
    | succ k1 =>
      have H := HA.out
      clear HA
      simp only [hallmarkref04_Has.l0] at H
      by_cases c4 : x6_1 < (t138.size : Int)
      · rw [if_pos c4] at H
        have c4b0 : decide (x6_1 < (t138.size : Int)) = true := decide_eq_true c4
        clear c4
        by_cases c5 : 0 ≤ x6_1
        · rw [if_pos c5] at H
          have c5b0 : decide (0 ≤ x6_1) = true := decide_eq_true c5
          clear c5
          by_cases c7 : (bt t138 x6_1) = a1
          · rw [if_pos c7] at H
            have c7b0 : ((bt t138 x6_1) == a1) = true := beq_iff_eq.mpr c7
            have c7b1 : ((bt t138 x6_1) != a1) = false := bne_eq_false_iff_eq.mpr c7
            clear c7
            obtain rfl := Option.some.inj H
            have p6 : 0 ≤ (x6_1 : Int) := of_decide_eq_true (by first | (with_reducible assumption) | assumption)
            have q6 : x6_1 < (t138.size : Int) := of_decide_eq_true (by first | (with_reducible assumption) | assumption)
            have hx6 := bt_at t138 x6_1
            replace p6 := eq_true p6
            replace q6 := eq_true q6
            go_wp2
            go_ret
            exact ⟨by first | rfl | (simp; done) | (simp [*]; done), by repeat (first | exact Drawn0.refl _ | apply Drawn0.step)⟩
          · rw [if_neg c7] at H
            have c7b0 : ((bt t138 x6_1) == a1) = false := beq_eq_false_iff_ne.mpr c7
            have c7b1 : ((bt t138 x6_1) != a1) = true := bne_iff_ne.mpr c7
            have H' := Aside0.mk H
            clear H
            have p6 : 0 ≤ (x6_1 : Int) := of_decide_eq_true (by first | (with_reducible assumption) | assumption)
            have q6 : x6_1 < (t138.size : Int) := of_decide_eq_true (by first | (with_reducible assumption) | assumption)
            have hx6 := bt_at t138 x6_1
            replace p6 := eq_true p6
            replace q6 := eq_true q6
            go_wp2
            go_roundg k1
            case measure => have := HK1.out; omega
            case rel => exact ⟨(wrap64 (x6_1 + 1)), (by first | rfl | (simp; done) | (simp [*]; done) | (simp [*, wrap64]; done) | (simp [*]; unfold wrap64; omega)), H', ⟨by have := HK1.out; omega⟩, by repeat (first | exact Drawn0.refl _ | apply Drawn0.step)⟩
        · rw [if_neg c5] at H
          exact absurd H (by simp)
      · rw [if_neg c4] at H
        have c4b0 : decide (x6_1 < (t138.size : Int)) = false := decide_eq_false c4
        clear c4
        obtain rfl := Option.some.inj H
        go_wp2
        go_ret
        exact ⟨by first | rfl | (simp; done) | (simp [*]; done), by repeat (first | exact Drawn0.refl _ | apply Drawn0.step)⟩

/-! ### hallmarkref04_Plain: function 18 -/
theorem fields_8_kinds (K : Int) (h : 0 ≤ K) (h' : K < 26) : K = 0 ∨ K = 1 ∨ K = 2 ∨ K = 3 ∨ K = 4 ∨ K = 5 ∨ K = 6 ∨ K = 7 ∨ K = 8 ∨ K = 9 ∨ K = 10 ∨ K = 11 ∨ K = 12 ∨ K = 13 ∨ K = 14 ∨ K = 15 ∨ K = 16 ∨ K = 17 ∨ K = 18 ∨ K = 19 ∨ K = 20 ∨ K = 21 ∨ K = 22 ∨ K = 23 ∨ K = 24 ∨ K = 25 := by omega
theorem fields_8_not (K : Int) (h : ¬ (0 ≤ K ∧ K < 26)) : K ≠ 0 ∧ K ≠ 1 ∧ K ≠ 2 ∧ K ≠ 3 ∧ K ≠ 4 ∧ K ≠ 5 ∧ K ≠ 6 ∧ K ≠ 7 ∧ K ≠ 8 ∧ K ≠ 9 ∧ K ≠ 10 ∧ K ≠ 11 ∧ K ≠ 12 ∧ K ≠ 13 ∧ K ≠ 14 ∧ K ≠ 15 ∧ K ≠ 16 ∧ K ≠ 17 ∧ K ≠ 18 ∧ K ≠ 19 ∧ K ≠ 20 ∧ K ≠ 21 ∧ K ≠ 22 ∧ K ≠ 23 ∧ K ≠ 24 ∧ K ≠ 25 := by
  refine ⟨?_, ?_, ?_, ?_, ?_, ?_, ?_, ?_, ?_, ?_, ?_, ?_, ?_, ?_, ?_, ?_, ?_, ?_, ?_, ?_, ?_, ?_, ?_, ?_, ?_, ?_⟩ <;> omega
set_option maxRecDepth 100000 in
set_option maxHeartbeats 4000000 in
theorem fields_8 (K : Int) : hallmarkref04_Fields.f 8 K = some (fieldsL K) := by
  by_cases hK : 0 ≤ K ∧ K < 26
  · rcases fields_8_kinds K hK.1 hK.2 with h | h | h | h | h | h | h | h | h | h | h | h | h | h | h | h | h | h | h | h | h | h | h | h | h | h <;> subst h <;>
      simp [hallmarkref04_Fields.f, hallmarkref04_Fields.j0, hallmarkref04_Fields.j1, hallmarkref04_Fields.j2, hallmarkref04_Fields.j3, hallmarkref04_Fields.j4, fieldsL, Door.kind_fields_tab]
  · have e : fieldsL K = ByteArray.empty := by unfold fieldsL; rw [if_neg hK]
    rw [e]
    obtain ⟨h0, h1, h2, h3, h4, h5, h6, h7, h8, h9, h10, h11, h12, h13, h14, h15, h16, h17, h18, h19, h20, h21, h22, h23, h24, h25⟩ := fields_8_not K hK
    simp [hallmarkref04_Fields.f, hallmarkref04_Fields.j0, hallmarkref04_Fields.j1, hallmarkref04_Fields.j2, hallmarkref04_Fields.j3, hallmarkref04_Fields.j4, h0, h1, h2, h3, h4, h5, h6, h7, h8, h9, h10, h11, h12, h13, h14, h15, h16, h17, h18, h19, h20, h21, h22, h23, h24, h25]
    rfl
set_option maxRecDepth 100000 in
theorem has_in : ∀ n : Fin 26, ∀ c : Fin 7, hallmarkref04_Has.f 12 (n.val : Int) ([78, 83, 65, 66, 67, 76, 75].getD c.val 0) = some (hasF (n.val : Int) ([78, 83, 65, 66, 67, 76, 75].getD c.val 0)) := by decide +kernel
theorem has_12 (K : Int) (c : Fin 7) : hallmarkref04_Has.f 12 K ([78, 83, 65, 66, 67, 76, 75].getD c.val 0) = some (hasF K ([78, 83, 65, 66, 67, 76, 75].getD c.val 0)) := by
  by_cases hK : 0 ≤ K ∧ K < 26
  · have h := has_in ⟨K.toNat, by omega⟩ c
    rw [show ((K.toNat : Nat) : Int) = K by omega] at h
    exact h
  · have e : fieldsL K = ByteArray.empty := by unfold fieldsL; rw [if_neg hK]
    have hf : hallmarkref04_Fields.f 12 K = some ByteArray.empty := by
      have h8 := fields_8 K
      have m := hallmarkref04_Fields.mono K
      rw [← e]
      exact m 11 _ (m 10 _ (m 9 _ (m 8 _ h8)))
    unfold hallmarkref04_Has.f
    rw [hf]
    have h2 : hasF K ([78, 83, 65, 66, 67, 76, 75].getD c.val 0) = false := by unfold hasF; rw [e]; rfl
    rw [h2]
    rfl
/-- The contract of Has at one of the fields' letters. -/
theorem has_calls (K : Int) (c : Fin 7) (b : Bool) (hb : hasF K ([78, 83, 65, 66, 67, 76, 75].getD c.val 0) = b) (w : World) :
    Calls Tryd.prog 29 #[.int .i64 K, .int .u8 ([78, 83, 65, 66, 67, 76, 75].getD c.val 0)] w fun e w' => e = .returned (.bool b) ∧ Drawn0 w w' :=
  hallmarkref04_Has.calls 12 K _ b w (by rw [has_12, hb])
set_option maxRecDepth 100000 in
theorem pats (K : Int) : (hasF K 78, hasF K 83, hasF K 65, hasF K 66, hasF K 67, hasF K 76, hasF K 75) ∈ [(true, false, false, false, false, false, false), (false, true, false, false, false, false, false), (true, false, true, true, false, false, false), (false, false, true, false, false, false, false), (false, false, true, true, false, false, false), (true, false, false, false, false, true, true), (true, false, true, false, false, false, false), (true, false, false, false, false, false, true), (false, false, true, true, true, false, false), (false, false, false, false, false, false, true), (true, false, false, false, false, true, false), (true, false, true, false, false, true, false), (false, false, false, false, false, false, false)] := by
  by_cases hK : 0 ≤ K ∧ K < 26
  · have h : ∀ n : Fin 26, (hasF (n.val : Int) 78, hasF (n.val : Int) 83, hasF (n.val : Int) 65, hasF (n.val : Int) 66, hasF (n.val : Int) 67, hasF (n.val : Int) 76, hasF (n.val : Int) 75) ∈ [(true, false, false, false, false, false, false), (false, true, false, false, false, false, false), (true, false, true, true, false, false, false), (false, false, true, false, false, false, false), (false, false, true, true, false, false, false), (true, false, false, false, false, true, true), (true, false, true, false, false, false, false), (true, false, false, false, false, false, true), (false, false, true, true, true, false, false), (false, false, false, false, false, false, true), (true, false, false, false, false, true, false), (true, false, true, false, false, true, false), (false, false, false, false, false, false, false)] := by decide +kernel
    have h := h ⟨K.toNat, by omega⟩
    rw [show ((K.toNat : Nat) : Int) = K by omega] at h
    exact h
  · have e : fieldsL K = ByteArray.empty := by unfold fieldsL; rw [if_neg hK]
    have h2 : ∀ c, hasF K c = false := fun c => by unfold hasF; rw [e]; rfl
    simp [h2]
/-- How things lie in Plain. -/
structure PlR (w : World) (K a b c n : Int) (s : ByteArray) (A : Option Addr) (cp : Nat) (l : List Int) (st : Bool) (vA vB vC vN : Int) (vS : ByteArray) (vL : Value) (lL : List Int) (vK : Bool) (W : World) : Prop where
  bel : Below w.heap.size w W
  o : W.heap[w.heap.size]? = some (.cells #[.int .i64 K, .int .i64 a, .int .i64 b, .int .i64 c, .int .i64 n, .string s, .slice A l.length cp, .bool st] 33 (0, 0))
  res : W.heap[w.heap.size + 1]? = some (.cells #[.int .i64 0, .int .i64 0, .int .i64 0, .int .i64 0, .int .i64 0, .string (⟨#[]⟩ : ByteArray), .slice none 0 0, .bool false] 33 (0, 0))
  out : W.heap[w.heap.size + 2]? = some (.cells #[.int .i64 K, .int .i64 vA, .int .i64 vB, .int .i64 vC, .int .i64 vN, .string vS, vL, .bool vK] 33 (0, 0))
  r : Kd.R (Kd.int .i64) 3 W (w.heap.size + 3) (fun _ => True) vL lL
section
variable {w : World} {K a b c n : Int} {s : ByteArray} {A : Option Addr} {cp : Nat} {l : List Int} {st : Bool} {vA vB vC vN : Int} {vS : ByteArray} {vL : Value} {lL : List Int} {vK : Bool} {W W' : World}
theorem PlR.lt (h : PlR w K a b c n s A cp l st vA vB vC vN vS vL lL vK W) : w.heap.size + 2 < W.heap.size := (Array.getElem?_eq_some_iff.1 h.out).1
theorem PlR.below (h : PlR w K a b c n s A cp l st vA vB vC vN vS vL lL vK W) (hb : Below W.heap.size W W') : PlR w K a b c n s A cp l st vA vB vC vN vS vL lL vK W' := by
  have hl := h.lt
  exact ⟨below_step h.bel hb, (hb.block _ (by omega)).trans h.o, (hb.block _ (by omega)).trans h.res, (hb.block _ hl).trans h.out, Kd.R_below h.r hb⟩
theorem PlR.put (h : PlR w K a b c n s A cp l st vA vB vC vN vS vL lL vK W) (j : Nat) (u : Value) {vA' vB' vC' vN' : Int} {vS' : ByteArray} {vK' : Bool}
    (e : (#[.int .i64 K, .int .i64 vA, .int .i64 vB, .int .i64 vC, .int .i64 vN, .string vS, vL, .bool vK] : Array Value).setIfInBounds j u = #[.int .i64 K, .int .i64 vA', .int .i64 vB', .int .i64 vC', .int .i64 vN', .string vS', vL, .bool vK']) :
    PlR w K a b c n s A cp l st vA' vB' vC' vN' vS' vL lL vK' (W.setCell ⟨w.heap.size + 2, j, none⟩ u) := by
  have hne : ∀ k, k ≠ w.heap.size + 2 → (W.setCell ⟨w.heap.size + 2, j, none⟩ u).heap[k]? = W.heap[k]? := fun k hk => Below.heap_setCell W ⟨w.heap.size + 2, j, none⟩ u k hk
  refine ⟨h.bel.setCell (p := ⟨w.heap.size + 2, j, none⟩) (by show w.heap.size ≤ w.heap.size + 2; omega) _, (hne _ (by omega)).trans h.o, (hne _ (by omega)).trans h.res, ?_, ?_⟩
  · have := blk_set h.out j u
    rw [this, e]
  · exact Kd.R_mono (Kd.R_move (Kd.R_bound h.r) (fun k hk => hne k (by have := hk.2.1; omega))) (fun _ _ => trivial)
theorem PlR.putL (h : PlR w K a b c n s A cp l st vA vB vC vN vS vL lL vK W) {u : Value} {l' : List Int} (hr : Kd.R (Kd.int .i64) 3 W (w.heap.size + 3) (fun _ => True) u l') :
    PlR w K a b c n s A cp l st vA vB vC vN vS u l' vK (W.setCell ⟨w.heap.size + 2, 6, none⟩ u) := by
  have hne : ∀ k, k ≠ w.heap.size + 2 → (W.setCell ⟨w.heap.size + 2, 6, none⟩ u).heap[k]? = W.heap[k]? := fun k hk => Below.heap_setCell W ⟨w.heap.size + 2, 6, none⟩ u k hk
  refine ⟨h.bel.setCell (p := ⟨w.heap.size + 2, 6, none⟩) (by show w.heap.size ≤ w.heap.size + 2; omega) _, (hne _ (by omega)).trans h.o, (hne _ (by omega)).trans h.res, ?_, ?_⟩
  · have := blk_set h.out 6 u
    rw [this]
    rfl
  · exact Kd.R_mono (Kd.R_move (Kd.R_bound hr) (fun k hk => hne k (by have := hk.2.1; omega))) (fun _ _ => trivial)
end
def hallmarkref04_Plain.f (a0_0 a0_1 a0_2 a0_3 a0_4 : Int) (a0_5 : ByteArray) (l0_6 : List Int) (a0_7 : Bool) : Option (Int × Int × Int × Int × Int × ByteArray × List Int × Bool) := kind_plain.f a0_0 a0_1 a0_2 a0_3 a0_4 a0_5 l0_6 a0_7
set_option maxHeartbeats 8000000 in
set_option maxRecDepth 100000 in
theorem hallmarkref04_Plain.calls (a0_0 : Int) (a0_1 : Int) (a0_2 : Int) (a0_3 : Int) (a0_4 : Int) (a0_5 : ByteArray) (A0_6 : Option Addr) (c0_6 : Nat) (l0_6 : List Int) (a0_7 : Bool) (r1 : Int) (r2 : Int) (r3 : Int) (r4 : Int) (r5 : Int) (r6 : ByteArray) (r7 : List Int) (r8 : Bool) (w : World) (hr0_6 : Kd.C (Kd.int .i64) w A0_6 l0_6.length l0_6) (hc0_6 : l0_6.length ≤ c0_6) (h : hallmarkref04_Plain.f a0_0 a0_1 a0_2 a0_3 a0_4 a0_5 l0_6 a0_7 = some (r1, r2, r3, r4, r5, r6, r7, r8)) :
    Calls Tryd.prog 18 #[.agg #[.int .i64 a0_0, .int .i64 a0_1, .int .i64 a0_2, .int .i64 a0_3, .int .i64 a0_4, .string a0_5, .slice A0_6 l0_6.length c0_6, .bool a0_7]] w fun e w' => ∃ v6_ : Value, e = .returned (.agg #[.int .i64 r1, .int .i64 r2, .int .i64 r3, .int .i64 r4, .int .i64 r5, .string r6, v6_, .bool r8]) ∧ Kd.R (Kd.int .i64) 3 w' w.heap.size (fun _ => True) v6_ r7 ∧ Below w.heap.size w w' := by
  unfold hallmarkref04_Plain.f kind_plain.f at h
  split at h
  rotate_left
  · cases h
  rename_i hll
  have hp := pats a0_0
  replace h := Option.some.inj h
  obtain ⟨bN, eN⟩ : ∃ b, hasF a0_0 78 = b := ⟨_, rfl⟩
  obtain ⟨bS, eS⟩ : ∃ b, hasF a0_0 83 = b := ⟨_, rfl⟩
  obtain ⟨bA, eA⟩ : ∃ b, hasF a0_0 65 = b := ⟨_, rfl⟩
  obtain ⟨bB, eB⟩ : ∃ b, hasF a0_0 66 = b := ⟨_, rfl⟩
  obtain ⟨bC, eC⟩ : ∃ b, hasF a0_0 67 = b := ⟨_, rfl⟩
  obtain ⟨bL, eL⟩ : ∃ b, hasF a0_0 76 = b := ⟨_, rfl⟩
  obtain ⟨bK, eK⟩ : ∃ b, hasF a0_0 75 = b := ⟨_, rfl⟩
  rw [eN, eS, eA, eB, eC, eL, eK] at hp h
  have CN : ∀ X : World, Calls Tryd.prog 29 #[.int .i64 a0_0, .int .u8 78] X fun e w' => e = .returned (.bool bN) ∧ Drawn0 X w' := fun X => has_calls a0_0 0 bN eN X
  have CS : ∀ X : World, Calls Tryd.prog 29 #[.int .i64 a0_0, .int .u8 83] X fun e w' => e = .returned (.bool bS) ∧ Drawn0 X w' := fun X => has_calls a0_0 1 bS eS X
  have CA : ∀ X : World, Calls Tryd.prog 29 #[.int .i64 a0_0, .int .u8 65] X fun e w' => e = .returned (.bool bA) ∧ Drawn0 X w' := fun X => has_calls a0_0 2 bA eA X
  have CB : ∀ X : World, Calls Tryd.prog 29 #[.int .i64 a0_0, .int .u8 66] X fun e w' => e = .returned (.bool bB) ∧ Drawn0 X w' := fun X => has_calls a0_0 3 bB eB X
  have CC : ∀ X : World, Calls Tryd.prog 29 #[.int .i64 a0_0, .int .u8 67] X fun e w' => e = .returned (.bool bC) ∧ Drawn0 X w' := fun X => has_calls a0_0 4 bC eC X
  have CL : ∀ X : World, Calls Tryd.prog 29 #[.int .i64 a0_0, .int .u8 76] X fun e w' => e = .returned (.bool bL) ∧ Drawn0 X w' := fun X => has_calls a0_0 5 bL eL X
  have CK : ∀ X : World, Calls Tryd.prog 29 #[.int .i64 a0_0, .int .u8 75] X fun e w' => e = .returned (.bool bK) ∧ Drawn0 X w' := fun X => has_calls a0_0 6 bK eK X
  clear eN eS eA eB eC eL eK
  have HR := Aside0.mk hr0_6
  have HCap := Aside0.mk hc0_6
  have HLL := Aside0.mk hll
  have hp0 : PlR w a0_0 a0_1 a0_2 a0_3 a0_4 a0_5 A0_6 c0_6 l0_6 a0_7 0 0 0 0 (⟨#[]⟩ : ByteArray) (.slice none 0 0) [] false (((w.alloc (.cells #[.int .i64 a0_0, .int .i64 a0_1, .int .i64 a0_2, .int .i64 a0_3, .int .i64 a0_4, .string a0_5, .slice A0_6 l0_6.length c0_6, .bool a0_7] 33)).alloc (.cells #[.int .i64 0, .int .i64 0, .int .i64 0, .int .i64 0, .int .i64 0, .string (⟨#[]⟩ : ByteArray), .slice none 0 0, .bool false] 33)).alloc (.cells #[.int .i64 a0_0, .int .i64 0, .int .i64 0, .int .i64 0, .int .i64 0, .string (⟨#[]⟩ : ByteArray), .slice none 0 0, .bool false] 33)) := by
    obtain ⟨h1, h2, h3⟩ := three_allocs w (.cells #[.int .i64 a0_0, .int .i64 a0_1, .int .i64 a0_2, .int .i64 a0_3, .int .i64 a0_4, .string a0_5, .slice A0_6 l0_6.length c0_6, .bool a0_7] 33) (.cells #[.int .i64 0, .int .i64 0, .int .i64 0, .int .i64 0, .int .i64 0, .string (⟨#[]⟩ : ByteArray), .slice none 0 0, .bool false] 33) (.cells #[.int .i64 a0_0, .int .i64 0, .int .i64 0, .int .i64 0, .int .i64 0, .string (⟨#[]⟩ : ByteArray), .slice none 0 0, .bool false] 33)
    exact ⟨below_alloc (below_alloc (below_alloc (Below.refl _ _) _) _) _, h1, h2, h3, Kd.R_nil _ _ _ _ _⟩
  have HP := Aside0.mk hp0
  have HcN := Aside0.mk CN
  have HcS := Aside0.mk CS
  have HcA := Aside0.mk CA
  have HcB := Aside0.mk CB
  have HcC := Aside0.mk CC
  have HcL := Aside0.mk CL
  have HcK := Aside0.mk CK
  clear hr0_6 hc0_6 hll hp0 CN CS CA CB CC CL CK
  simp only [List.mem_cons, List.not_mem_nil, Prod.mk.injEq, or_false] at hp
  rcases hp with ⟨rfl, rfl, rfl, rfl, rfl, rfl, rfl⟩ | ⟨rfl, rfl, rfl, rfl, rfl, rfl, rfl⟩ | ⟨rfl, rfl, rfl, rfl, rfl, rfl, rfl⟩ | ⟨rfl, rfl, rfl, rfl, rfl, rfl, rfl⟩ | ⟨rfl, rfl, rfl, rfl, rfl, rfl, rfl⟩ | ⟨rfl, rfl, rfl, rfl, rfl, rfl, rfl⟩ | ⟨rfl, rfl, rfl, rfl, rfl, rfl, rfl⟩ | ⟨rfl, rfl, rfl, rfl, rfl, rfl, rfl⟩ | ⟨rfl, rfl, rfl, rfl, rfl, rfl, rfl⟩ | ⟨rfl, rfl, rfl, rfl, rfl, rfl, rfl⟩ | ⟨rfl, rfl, rfl, rfl, rfl, rfl, rfl⟩ | ⟨rfl, rfl, rfl, rfl, rfl, rfl, rfl⟩ | ⟨rfl, rfl, rfl, rfl, rfl, rfl, rfl⟩
  · simp only [Bool.false_eq_true, if_true, if_false, Prod.mk.injEq] at h
    obtain ⟨rfl, rfl, rfl, rfl, rfl, rfl, rfl, rfl⟩ := h
    have q00 := blk_cell HP.out.o 0
    have hsz2 : w.heap.size + 1 + 1 = w.heap.size + 2 := rfl
    go_enter Tryd.func18, Tryd.ntmps18
    go_wp2_with (first
      | (go_at_call 29; with_reducible refine (HcN.out _).mono ?_; rintro e XN ⟨rfl, hd⟩; have PN := Aside0.mk (PlR.below (HP.out) hd.below); clear hd; have qsN := blk_cell PN.out.o 4; have qcN := blk_cell PN.out.out 4; have qfN := blk_frozen PN.out.out 4; have PN' := Aside0.mk (PlR.put (vA' := 0) (vB' := 0) (vC' := 0) (vN' := a0_4) (vS' := (⟨#[]⟩ : ByteArray)) (vK' := false) PN.out 4 (.int .i64 a0_4) rfl); have qkN := blk_cell PN'.out.o 0)
      | (go_at_call 29; with_reducible refine (HcS.out _).mono ?_; rintro e XS ⟨rfl, hd⟩; have PS := Aside0.mk (PlR.below (PN'.out) hd.below); clear hd; have qkS := blk_cell PS.out.o 0)
      | (go_at_call 29; with_reducible refine (HcA.out _).mono ?_; rintro e XA ⟨rfl, hd⟩; have PA := Aside0.mk (PlR.below (PS.out) hd.below); clear hd; have qkA := blk_cell PA.out.o 0)
      | (go_at_call 29; with_reducible refine (HcB.out _).mono ?_; rintro e XB ⟨rfl, hd⟩; have PB := Aside0.mk (PlR.below (PA.out) hd.below); clear hd; have qkB := blk_cell PB.out.o 0)
      | (go_at_call 29; with_reducible refine (HcC.out _).mono ?_; rintro e XC ⟨rfl, hd⟩; have PC := Aside0.mk (PlR.below (PB.out) hd.below); clear hd; have qkC := blk_cell PC.out.o 0)
      | (go_at_call 29; with_reducible refine (HcL.out _).mono ?_; rintro e XL ⟨rfl, hd⟩; have PL := Aside0.mk (PlR.below (PC.out) hd.below); clear hd; have qkL := blk_cell PL.out.o 0)
      | (go_at_call 29; with_reducible refine (HcK.out _).mono ?_; rintro e XK ⟨rfl, hd⟩; have PK := Aside0.mk (PlR.below (PL.out) hd.below); clear hd; have qkK := blk_cell PK.out.o 0; have hz := blk_frozen PK.out.res; have hpp := blk_cell PK.out.res; have hq := blk_cell PK.out.out))
    have hne : ∀ (V : World) (i j : Nat) (u : Value), j ≠ w.heap.size + 1 → (V.setCell ⟨w.heap.size + 1, i, none⟩ u).heap[j]? = V.heap[j]? := fun V i j u hj => Below.heap_setCell V ⟨w.heap.size + 1, i, none⟩ u j hj
    have hB : ∀ (V : World) (i : Nat) (u : Value), Below w.heap.size w V → Below w.heap.size w (V.setCell ⟨w.heap.size + 1, i, none⟩ u) := fun V i u h => h.setCell (p := ⟨w.heap.size + 1, i, none⟩) (by show w.heap.size ≤ w.heap.size + 1; omega) _
    refine bodyPost_ret (results_cell_row rfl _ _ (w.heap.size + 1) 33 #[.int .i64 a0_0, .int .i64 0, .int .i64 0, .int .i64 0, .int .i64 a0_4, .string (⟨#[]⟩ : ByteArray), .slice none 0 0, .bool false] (0, 0) _ rfl ?_ Tryd.underlying33 rfl (by kernel_rfl)) rfl ⟨(.slice none 0 0), rfl, ?_, ?_⟩
    · have h1 := blk_set (blk_set (blk_set (blk_set (blk_set (blk_set (blk_set (blk_set (PK.out.res) 0 (.int .i64 a0_0)) 1 (.int .i64 0)) 2 (.int .i64 0)) 3 (.int .i64 0)) 4 (.int .i64 a0_4)) 5 (.string (⟨#[]⟩ : ByteArray))) 6 (.slice none 0 0)) 7 (.bool false)
      rw [h1]
      first | done | rfl | simp
    · refine Kd.R_mono (Kd.R_lower (Kd.R_move (Kd.R_bound PK.out.r) (fun k hk => ?_)) (by omega)) (fun _ _ => trivial)
      have hk1 : k ≠ w.heap.size + 1 := by
        have := hk.2.1
        omega
      simp only [hne _ _ _ _ hk1]
    · exact hB _ _ _ (hB _ _ _ (hB _ _ _ (hB _ _ _ (hB _ _ _ (hB _ _ _ (hB _ _ _ (hB _ _ _ PK.out.bel)))))))
  · simp only [Bool.false_eq_true, if_true, if_false, Prod.mk.injEq] at h
    obtain ⟨rfl, rfl, rfl, rfl, rfl, rfl, rfl, rfl⟩ := h
    have q00 := blk_cell HP.out.o 0
    have hsz2 : w.heap.size + 1 + 1 = w.heap.size + 2 := rfl
    go_enter Tryd.func18, Tryd.ntmps18
    go_wp2_with (first
      | (go_at_call 29; with_reducible refine (HcN.out _).mono ?_; rintro e XN ⟨rfl, hd⟩; have PN := Aside0.mk (PlR.below (HP.out) hd.below); clear hd; have qkN := blk_cell PN.out.o 0)
      | (go_at_call 29; with_reducible refine (HcS.out _).mono ?_; rintro e XS ⟨rfl, hd⟩; have PS := Aside0.mk (PlR.below (PN.out) hd.below); clear hd; have qsS := blk_cell PS.out.o 5; have qcS := blk_cell PS.out.out 5; have qfS := blk_frozen PS.out.out 5; have PS' := Aside0.mk (PlR.put (vA' := 0) (vB' := 0) (vC' := 0) (vN' := 0) (vS' := a0_5) (vK' := false) PS.out 5 (.string a0_5) rfl); have qkS := blk_cell PS'.out.o 0)
      | (go_at_call 29; with_reducible refine (HcA.out _).mono ?_; rintro e XA ⟨rfl, hd⟩; have PA := Aside0.mk (PlR.below (PS'.out) hd.below); clear hd; have qkA := blk_cell PA.out.o 0)
      | (go_at_call 29; with_reducible refine (HcB.out _).mono ?_; rintro e XB ⟨rfl, hd⟩; have PB := Aside0.mk (PlR.below (PA.out) hd.below); clear hd; have qkB := blk_cell PB.out.o 0)
      | (go_at_call 29; with_reducible refine (HcC.out _).mono ?_; rintro e XC ⟨rfl, hd⟩; have PC := Aside0.mk (PlR.below (PB.out) hd.below); clear hd; have qkC := blk_cell PC.out.o 0)
      | (go_at_call 29; with_reducible refine (HcL.out _).mono ?_; rintro e XL ⟨rfl, hd⟩; have PL := Aside0.mk (PlR.below (PC.out) hd.below); clear hd; have qkL := blk_cell PL.out.o 0)
      | (go_at_call 29; with_reducible refine (HcK.out _).mono ?_; rintro e XK ⟨rfl, hd⟩; have PK := Aside0.mk (PlR.below (PL.out) hd.below); clear hd; have qkK := blk_cell PK.out.o 0; have hz := blk_frozen PK.out.res; have hpp := blk_cell PK.out.res; have hq := blk_cell PK.out.out))
    have hne : ∀ (V : World) (i j : Nat) (u : Value), j ≠ w.heap.size + 1 → (V.setCell ⟨w.heap.size + 1, i, none⟩ u).heap[j]? = V.heap[j]? := fun V i j u hj => Below.heap_setCell V ⟨w.heap.size + 1, i, none⟩ u j hj
    have hB : ∀ (V : World) (i : Nat) (u : Value), Below w.heap.size w V → Below w.heap.size w (V.setCell ⟨w.heap.size + 1, i, none⟩ u) := fun V i u h => h.setCell (p := ⟨w.heap.size + 1, i, none⟩) (by show w.heap.size ≤ w.heap.size + 1; omega) _
    refine bodyPost_ret (results_cell_row rfl _ _ (w.heap.size + 1) 33 #[.int .i64 a0_0, .int .i64 0, .int .i64 0, .int .i64 0, .int .i64 0, .string a0_5, .slice none 0 0, .bool false] (0, 0) _ rfl ?_ Tryd.underlying33 rfl (by kernel_rfl)) rfl ⟨(.slice none 0 0), rfl, ?_, ?_⟩
    · have h1 := blk_set (blk_set (blk_set (blk_set (blk_set (blk_set (blk_set (blk_set (PK.out.res) 0 (.int .i64 a0_0)) 1 (.int .i64 0)) 2 (.int .i64 0)) 3 (.int .i64 0)) 4 (.int .i64 0)) 5 (.string a0_5)) 6 (.slice none 0 0)) 7 (.bool false)
      rw [h1]
      first | done | rfl | simp
    · refine Kd.R_mono (Kd.R_lower (Kd.R_move (Kd.R_bound PK.out.r) (fun k hk => ?_)) (by omega)) (fun _ _ => trivial)
      have hk1 : k ≠ w.heap.size + 1 := by
        have := hk.2.1
        omega
      simp only [hne _ _ _ _ hk1]
    · exact hB _ _ _ (hB _ _ _ (hB _ _ _ (hB _ _ _ (hB _ _ _ (hB _ _ _ (hB _ _ _ (hB _ _ _ PK.out.bel)))))))
  · simp only [Bool.false_eq_true, if_true, if_false, Prod.mk.injEq] at h
    obtain ⟨rfl, rfl, rfl, rfl, rfl, rfl, rfl, rfl⟩ := h
    have q00 := blk_cell HP.out.o 0
    have hsz2 : w.heap.size + 1 + 1 = w.heap.size + 2 := rfl
    go_enter Tryd.func18, Tryd.ntmps18
    go_wp2_with (first
      | (go_at_call 29; with_reducible refine (HcN.out _).mono ?_; rintro e XN ⟨rfl, hd⟩; have PN := Aside0.mk (PlR.below (HP.out) hd.below); clear hd; have qsN := blk_cell PN.out.o 4; have qcN := blk_cell PN.out.out 4; have qfN := blk_frozen PN.out.out 4; have PN' := Aside0.mk (PlR.put (vA' := 0) (vB' := 0) (vC' := 0) (vN' := a0_4) (vS' := (⟨#[]⟩ : ByteArray)) (vK' := false) PN.out 4 (.int .i64 a0_4) rfl); have qkN := blk_cell PN'.out.o 0)
      | (go_at_call 29; with_reducible refine (HcS.out _).mono ?_; rintro e XS ⟨rfl, hd⟩; have PS := Aside0.mk (PlR.below (PN'.out) hd.below); clear hd; have qkS := blk_cell PS.out.o 0)
      | (go_at_call 29; with_reducible refine (HcA.out _).mono ?_; rintro e XA ⟨rfl, hd⟩; have PA := Aside0.mk (PlR.below (PS.out) hd.below); clear hd; have qsA := blk_cell PA.out.o 1; have qcA := blk_cell PA.out.out 1; have qfA := blk_frozen PA.out.out 1; have PA' := Aside0.mk (PlR.put (vA' := a0_1) (vB' := 0) (vC' := 0) (vN' := a0_4) (vS' := (⟨#[]⟩ : ByteArray)) (vK' := false) PA.out 1 (.int .i64 a0_1) rfl); have qkA := blk_cell PA'.out.o 0)
      | (go_at_call 29; with_reducible refine (HcB.out _).mono ?_; rintro e XB ⟨rfl, hd⟩; have PB := Aside0.mk (PlR.below (PA'.out) hd.below); clear hd; have qsB := blk_cell PB.out.o 2; have qcB := blk_cell PB.out.out 2; have qfB := blk_frozen PB.out.out 2; have PB' := Aside0.mk (PlR.put (vA' := a0_1) (vB' := a0_2) (vC' := 0) (vN' := a0_4) (vS' := (⟨#[]⟩ : ByteArray)) (vK' := false) PB.out 2 (.int .i64 a0_2) rfl); have qkB := blk_cell PB'.out.o 0)
      | (go_at_call 29; with_reducible refine (HcC.out _).mono ?_; rintro e XC ⟨rfl, hd⟩; have PC := Aside0.mk (PlR.below (PB'.out) hd.below); clear hd; have qkC := blk_cell PC.out.o 0)
      | (go_at_call 29; with_reducible refine (HcL.out _).mono ?_; rintro e XL ⟨rfl, hd⟩; have PL := Aside0.mk (PlR.below (PC.out) hd.below); clear hd; have qkL := blk_cell PL.out.o 0)
      | (go_at_call 29; with_reducible refine (HcK.out _).mono ?_; rintro e XK ⟨rfl, hd⟩; have PK := Aside0.mk (PlR.below (PL.out) hd.below); clear hd; have qkK := blk_cell PK.out.o 0; have hz := blk_frozen PK.out.res; have hpp := blk_cell PK.out.res; have hq := blk_cell PK.out.out))
    have hne : ∀ (V : World) (i j : Nat) (u : Value), j ≠ w.heap.size + 1 → (V.setCell ⟨w.heap.size + 1, i, none⟩ u).heap[j]? = V.heap[j]? := fun V i j u hj => Below.heap_setCell V ⟨w.heap.size + 1, i, none⟩ u j hj
    have hB : ∀ (V : World) (i : Nat) (u : Value), Below w.heap.size w V → Below w.heap.size w (V.setCell ⟨w.heap.size + 1, i, none⟩ u) := fun V i u h => h.setCell (p := ⟨w.heap.size + 1, i, none⟩) (by show w.heap.size ≤ w.heap.size + 1; omega) _
    refine bodyPost_ret (results_cell_row rfl _ _ (w.heap.size + 1) 33 #[.int .i64 a0_0, .int .i64 a0_1, .int .i64 a0_2, .int .i64 0, .int .i64 a0_4, .string (⟨#[]⟩ : ByteArray), .slice none 0 0, .bool false] (0, 0) _ rfl ?_ Tryd.underlying33 rfl (by kernel_rfl)) rfl ⟨(.slice none 0 0), rfl, ?_, ?_⟩
    · have h1 := blk_set (blk_set (blk_set (blk_set (blk_set (blk_set (blk_set (blk_set (PK.out.res) 0 (.int .i64 a0_0)) 1 (.int .i64 a0_1)) 2 (.int .i64 a0_2)) 3 (.int .i64 0)) 4 (.int .i64 a0_4)) 5 (.string (⟨#[]⟩ : ByteArray))) 6 (.slice none 0 0)) 7 (.bool false)
      rw [h1]
      first | done | rfl | simp
    · refine Kd.R_mono (Kd.R_lower (Kd.R_move (Kd.R_bound PK.out.r) (fun k hk => ?_)) (by omega)) (fun _ _ => trivial)
      have hk1 : k ≠ w.heap.size + 1 := by
        have := hk.2.1
        omega
      simp only [hne _ _ _ _ hk1]
    · exact hB _ _ _ (hB _ _ _ (hB _ _ _ (hB _ _ _ (hB _ _ _ (hB _ _ _ (hB _ _ _ (hB _ _ _ PK.out.bel)))))))
  · simp only [Bool.false_eq_true, if_true, if_false, Prod.mk.injEq] at h
    obtain ⟨rfl, rfl, rfl, rfl, rfl, rfl, rfl, rfl⟩ := h
    have q00 := blk_cell HP.out.o 0
    have hsz2 : w.heap.size + 1 + 1 = w.heap.size + 2 := rfl
    go_enter Tryd.func18, Tryd.ntmps18
    go_wp2_with (first
      | (go_at_call 29; with_reducible refine (HcN.out _).mono ?_; rintro e XN ⟨rfl, hd⟩; have PN := Aside0.mk (PlR.below (HP.out) hd.below); clear hd; have qkN := blk_cell PN.out.o 0)
      | (go_at_call 29; with_reducible refine (HcS.out _).mono ?_; rintro e XS ⟨rfl, hd⟩; have PS := Aside0.mk (PlR.below (PN.out) hd.below); clear hd; have qkS := blk_cell PS.out.o 0)
      | (go_at_call 29; with_reducible refine (HcA.out _).mono ?_; rintro e XA ⟨rfl, hd⟩; have PA := Aside0.mk (PlR.below (PS.out) hd.below); clear hd; have qsA := blk_cell PA.out.o 1; have qcA := blk_cell PA.out.out 1; have qfA := blk_frozen PA.out.out 1; have PA' := Aside0.mk (PlR.put (vA' := a0_1) (vB' := 0) (vC' := 0) (vN' := 0) (vS' := (⟨#[]⟩ : ByteArray)) (vK' := false) PA.out 1 (.int .i64 a0_1) rfl); have qkA := blk_cell PA'.out.o 0)
      | (go_at_call 29; with_reducible refine (HcB.out _).mono ?_; rintro e XB ⟨rfl, hd⟩; have PB := Aside0.mk (PlR.below (PA'.out) hd.below); clear hd; have qkB := blk_cell PB.out.o 0)
      | (go_at_call 29; with_reducible refine (HcC.out _).mono ?_; rintro e XC ⟨rfl, hd⟩; have PC := Aside0.mk (PlR.below (PB.out) hd.below); clear hd; have qkC := blk_cell PC.out.o 0)
      | (go_at_call 29; with_reducible refine (HcL.out _).mono ?_; rintro e XL ⟨rfl, hd⟩; have PL := Aside0.mk (PlR.below (PC.out) hd.below); clear hd; have qkL := blk_cell PL.out.o 0)
      | (go_at_call 29; with_reducible refine (HcK.out _).mono ?_; rintro e XK ⟨rfl, hd⟩; have PK := Aside0.mk (PlR.below (PL.out) hd.below); clear hd; have qkK := blk_cell PK.out.o 0; have hz := blk_frozen PK.out.res; have hpp := blk_cell PK.out.res; have hq := blk_cell PK.out.out))
    have hne : ∀ (V : World) (i j : Nat) (u : Value), j ≠ w.heap.size + 1 → (V.setCell ⟨w.heap.size + 1, i, none⟩ u).heap[j]? = V.heap[j]? := fun V i j u hj => Below.heap_setCell V ⟨w.heap.size + 1, i, none⟩ u j hj
    have hB : ∀ (V : World) (i : Nat) (u : Value), Below w.heap.size w V → Below w.heap.size w (V.setCell ⟨w.heap.size + 1, i, none⟩ u) := fun V i u h => h.setCell (p := ⟨w.heap.size + 1, i, none⟩) (by show w.heap.size ≤ w.heap.size + 1; omega) _
    refine bodyPost_ret (results_cell_row rfl _ _ (w.heap.size + 1) 33 #[.int .i64 a0_0, .int .i64 a0_1, .int .i64 0, .int .i64 0, .int .i64 0, .string (⟨#[]⟩ : ByteArray), .slice none 0 0, .bool false] (0, 0) _ rfl ?_ Tryd.underlying33 rfl (by kernel_rfl)) rfl ⟨(.slice none 0 0), rfl, ?_, ?_⟩
    · have h1 := blk_set (blk_set (blk_set (blk_set (blk_set (blk_set (blk_set (blk_set (PK.out.res) 0 (.int .i64 a0_0)) 1 (.int .i64 a0_1)) 2 (.int .i64 0)) 3 (.int .i64 0)) 4 (.int .i64 0)) 5 (.string (⟨#[]⟩ : ByteArray))) 6 (.slice none 0 0)) 7 (.bool false)
      rw [h1]
      first | done | rfl | simp
    · refine Kd.R_mono (Kd.R_lower (Kd.R_move (Kd.R_bound PK.out.r) (fun k hk => ?_)) (by omega)) (fun _ _ => trivial)
      have hk1 : k ≠ w.heap.size + 1 := by
        have := hk.2.1
        omega
      simp only [hne _ _ _ _ hk1]
    · exact hB _ _ _ (hB _ _ _ (hB _ _ _ (hB _ _ _ (hB _ _ _ (hB _ _ _ (hB _ _ _ (hB _ _ _ PK.out.bel)))))))
  · simp only [Bool.false_eq_true, if_true, if_false, Prod.mk.injEq] at h
    obtain ⟨rfl, rfl, rfl, rfl, rfl, rfl, rfl, rfl⟩ := h
    have q00 := blk_cell HP.out.o 0
    have hsz2 : w.heap.size + 1 + 1 = w.heap.size + 2 := rfl
    go_enter Tryd.func18, Tryd.ntmps18
    go_wp2_with (first
      | (go_at_call 29; with_reducible refine (HcN.out _).mono ?_; rintro e XN ⟨rfl, hd⟩; have PN := Aside0.mk (PlR.below (HP.out) hd.below); clear hd; have qkN := blk_cell PN.out.o 0)
      | (go_at_call 29; with_reducible refine (HcS.out _).mono ?_; rintro e XS ⟨rfl, hd⟩; have PS := Aside0.mk (PlR.below (PN.out) hd.below); clear hd; have qkS := blk_cell PS.out.o 0)
      | (go_at_call 29; with_reducible refine (HcA.out _).mono ?_; rintro e XA ⟨rfl, hd⟩; have PA := Aside0.mk (PlR.below (PS.out) hd.below); clear hd; have qsA := blk_cell PA.out.o 1; have qcA := blk_cell PA.out.out 1; have qfA := blk_frozen PA.out.out 1; have PA' := Aside0.mk (PlR.put (vA' := a0_1) (vB' := 0) (vC' := 0) (vN' := 0) (vS' := (⟨#[]⟩ : ByteArray)) (vK' := false) PA.out 1 (.int .i64 a0_1) rfl); have qkA := blk_cell PA'.out.o 0)
      | (go_at_call 29; with_reducible refine (HcB.out _).mono ?_; rintro e XB ⟨rfl, hd⟩; have PB := Aside0.mk (PlR.below (PA'.out) hd.below); clear hd; have qsB := blk_cell PB.out.o 2; have qcB := blk_cell PB.out.out 2; have qfB := blk_frozen PB.out.out 2; have PB' := Aside0.mk (PlR.put (vA' := a0_1) (vB' := a0_2) (vC' := 0) (vN' := 0) (vS' := (⟨#[]⟩ : ByteArray)) (vK' := false) PB.out 2 (.int .i64 a0_2) rfl); have qkB := blk_cell PB'.out.o 0)
      | (go_at_call 29; with_reducible refine (HcC.out _).mono ?_; rintro e XC ⟨rfl, hd⟩; have PC := Aside0.mk (PlR.below (PB'.out) hd.below); clear hd; have qkC := blk_cell PC.out.o 0)
      | (go_at_call 29; with_reducible refine (HcL.out _).mono ?_; rintro e XL ⟨rfl, hd⟩; have PL := Aside0.mk (PlR.below (PC.out) hd.below); clear hd; have qkL := blk_cell PL.out.o 0)
      | (go_at_call 29; with_reducible refine (HcK.out _).mono ?_; rintro e XK ⟨rfl, hd⟩; have PK := Aside0.mk (PlR.below (PL.out) hd.below); clear hd; have qkK := blk_cell PK.out.o 0; have hz := blk_frozen PK.out.res; have hpp := blk_cell PK.out.res; have hq := blk_cell PK.out.out))
    have hne : ∀ (V : World) (i j : Nat) (u : Value), j ≠ w.heap.size + 1 → (V.setCell ⟨w.heap.size + 1, i, none⟩ u).heap[j]? = V.heap[j]? := fun V i j u hj => Below.heap_setCell V ⟨w.heap.size + 1, i, none⟩ u j hj
    have hB : ∀ (V : World) (i : Nat) (u : Value), Below w.heap.size w V → Below w.heap.size w (V.setCell ⟨w.heap.size + 1, i, none⟩ u) := fun V i u h => h.setCell (p := ⟨w.heap.size + 1, i, none⟩) (by show w.heap.size ≤ w.heap.size + 1; omega) _
    refine bodyPost_ret (results_cell_row rfl _ _ (w.heap.size + 1) 33 #[.int .i64 a0_0, .int .i64 a0_1, .int .i64 a0_2, .int .i64 0, .int .i64 0, .string (⟨#[]⟩ : ByteArray), .slice none 0 0, .bool false] (0, 0) _ rfl ?_ Tryd.underlying33 rfl (by kernel_rfl)) rfl ⟨(.slice none 0 0), rfl, ?_, ?_⟩
    · have h1 := blk_set (blk_set (blk_set (blk_set (blk_set (blk_set (blk_set (blk_set (PK.out.res) 0 (.int .i64 a0_0)) 1 (.int .i64 a0_1)) 2 (.int .i64 a0_2)) 3 (.int .i64 0)) 4 (.int .i64 0)) 5 (.string (⟨#[]⟩ : ByteArray))) 6 (.slice none 0 0)) 7 (.bool false)
      rw [h1]
      first | done | rfl | simp
    · refine Kd.R_mono (Kd.R_lower (Kd.R_move (Kd.R_bound PK.out.r) (fun k hk => ?_)) (by omega)) (fun _ _ => trivial)
      have hk1 : k ≠ w.heap.size + 1 := by
        have := hk.2.1
        omega
      simp only [hne _ _ _ _ hk1]
    · exact hB _ _ _ (hB _ _ _ (hB _ _ _ (hB _ _ _ (hB _ _ _ (hB _ _ _ (hB _ _ _ (hB _ _ _ PK.out.bel)))))))
  · simp only [Bool.false_eq_true, if_true, if_false, Prod.mk.injEq] at h
    obtain ⟨rfl, rfl, rfl, rfl, rfl, rfl, rfl, rfl⟩ := h
    have q00 := blk_cell HP.out.o 0
    have hsz2 : w.heap.size + 1 + 1 = w.heap.size + 2 := rfl
    go_enter Tryd.func18, Tryd.ntmps18
    go_wp2_with (first
      | (go_at_call 29; with_reducible refine (HcN.out _).mono ?_; rintro e XN ⟨rfl, hd⟩; have PN := Aside0.mk (PlR.below (HP.out) hd.below); clear hd; have qsN := blk_cell PN.out.o 4; have qcN := blk_cell PN.out.out 4; have qfN := blk_frozen PN.out.out 4; have PN' := Aside0.mk (PlR.put (vA' := 0) (vB' := 0) (vC' := 0) (vN' := a0_4) (vS' := (⟨#[]⟩ : ByteArray)) (vK' := false) PN.out 4 (.int .i64 a0_4) rfl); have qkN := blk_cell PN'.out.o 0)
      | (go_at_call 29; with_reducible refine (HcS.out _).mono ?_; rintro e XS ⟨rfl, hd⟩; have PS := Aside0.mk (PlR.below (PN'.out) hd.below); clear hd; have qkS := blk_cell PS.out.o 0)
      | (go_at_call 29; with_reducible refine (HcA.out _).mono ?_; rintro e XA ⟨rfl, hd⟩; have PA := Aside0.mk (PlR.below (PS.out) hd.below); clear hd; have qkA := blk_cell PA.out.o 0)
      | (go_at_call 29; with_reducible refine (HcB.out _).mono ?_; rintro e XB ⟨rfl, hd⟩; have PB := Aside0.mk (PlR.below (PA.out) hd.below); clear hd; have qkB := blk_cell PB.out.o 0)
      | (go_at_call 29; with_reducible refine (HcC.out _).mono ?_; rintro e XC ⟨rfl, hd⟩; have PC := Aside0.mk (PlR.below (PB.out) hd.below); clear hd; have qkC := blk_cell PC.out.o 0)
      | (go_at_call 29; with_reducible refine (HcL.out _).mono ?_; rintro e XL ⟨rfl, hd⟩; have PL := Aside0.mk (PlR.below (PC.out) hd.below); clear hd; have qsL := blk_cell PL.out.o 6)
      | ((with_reducible refine gate_dst (N := 40) rfl ?_); refine Kd.R_lit (Kd.int .i64) XL.heap.size 3 ?hg (N := 40) ?hd (xs := ([] : List Int)) (inner := []) (ok := fun _ => True) (okp := fun _ => True) ?hr ?hp (fun _ hk => hk) trivial (Below.refl _ _) (Nat.le_refl _) (by simp) ?_; (case hd => rfl); (case hg => rfl); (case hr => first | (go_simp; done) | (go_simp; rfl)); (case hp => exact (Reps.none _ _)); intro vn w5 ho6 hb hg_ hnew_; clear hg_ hnew_; have HO6 := Aside0.mk ho6; have HB6 := Aside0.mk hb; have PL5 := Aside0.mk (PlR.below PL.out hb); have qsL5 := blk_cell PL5.out.o 6; clear ho6 hb)
      | ((with_reducible refine gate_builtin (b := .append) (xs := #[.tmp 40, .tmp 42]) rfl ?_); at_builtin; refine Kd.R_append_rows (Kd.int .i64) (w0 := XL) XL.heap.size rfl (.tmp 40) (.tmp 42) 31 3 (.int .i64 0) 8 rfl Tryd.underlying31 info3 rfl (by decide) (by omega) vn [] l0_6 _ _ _ (fun _ => True) (fun _ => False) rfl rfl ?aO ?aR (fun _ _ h => h) (fun _ h => h.elim) ?aF ?aB ?aS ?aL ?_; (case aR => exact Kd.C_below HR.out PL5.out.bel); (case aB => exact HB6.out); (case aF => exact (fun _ _ => trivial)); (case aO => exact HO6.out); (case aS => exact HB6.out.size); (case aL => have := HLL.out; simp; omega); intro v120 w9 ho hb hg hat; rw [List.nil_append] at ho; have PL9 := Aside0.mk (PlR.below PL.out hb); obtain ⟨Ao, co, rfl⟩ := Kd.R_slice ho; have HO9 := Aside0.mk (Kd.R_mono (Kd.R_lower ho (show w.heap.size + 3 ≤ XL.heap.size by have := PL.out.lt; omega)) (fun _ _ => trivial)); have PL' := Aside0.mk (PlR.putL PL9.out HO9.out); have qcL := blk_cell PL9.out.out 6; have qfL := blk_frozen PL9.out.out 6; have qkL := blk_cell PL'.out.o 0; clear ho hb hg hat)
      | (go_at_call 29; with_reducible refine (HcK.out _).mono ?_; rintro e XK ⟨rfl, hd⟩; have PK := Aside0.mk (PlR.below (PL'.out) hd.below); clear hd; have qsK := blk_cell PK.out.o 7; have qcK := blk_cell PK.out.out 7; have qfK := blk_frozen PK.out.out 7; have PK' := Aside0.mk (PlR.put (vA' := 0) (vB' := 0) (vC' := 0) (vN' := a0_4) (vS' := (⟨#[]⟩ : ByteArray)) (vK' := a0_7) PK.out 7 (.bool a0_7) rfl); have qkK := blk_cell PK'.out.o 0; have hz := blk_frozen PK'.out.res; have hpp := blk_cell PK'.out.res; have hq := blk_cell PK'.out.out))
    have hne : ∀ (V : World) (i j : Nat) (u : Value), j ≠ w.heap.size + 1 → (V.setCell ⟨w.heap.size + 1, i, none⟩ u).heap[j]? = V.heap[j]? := fun V i j u hj => Below.heap_setCell V ⟨w.heap.size + 1, i, none⟩ u j hj
    have hB : ∀ (V : World) (i : Nat) (u : Value), Below w.heap.size w V → Below w.heap.size w (V.setCell ⟨w.heap.size + 1, i, none⟩ u) := fun V i u h => h.setCell (p := ⟨w.heap.size + 1, i, none⟩) (by show w.heap.size ≤ w.heap.size + 1; omega) _
    refine bodyPost_ret (results_cell_row rfl _ _ (w.heap.size + 1) 33 #[.int .i64 a0_0, .int .i64 0, .int .i64 0, .int .i64 0, .int .i64 a0_4, .string (⟨#[]⟩ : ByteArray), .slice Ao l0_6.length co, .bool a0_7] (0, 0) _ rfl ?_ Tryd.underlying33 rfl (by kernel_rfl)) rfl ⟨(.slice Ao l0_6.length co), rfl, ?_, ?_⟩
    · have h1 := blk_set (blk_set (blk_set (blk_set (blk_set (blk_set (blk_set (blk_set (PK'.out.res) 0 (.int .i64 a0_0)) 1 (.int .i64 0)) 2 (.int .i64 0)) 3 (.int .i64 0)) 4 (.int .i64 a0_4)) 5 (.string (⟨#[]⟩ : ByteArray))) 6 (.slice Ao l0_6.length co)) 7 (.bool a0_7)
      rw [h1]
      first | done | rfl | simp
    · refine Kd.R_mono (Kd.R_lower (Kd.R_move (Kd.R_bound PK'.out.r) (fun k hk => ?_)) (by omega)) (fun _ _ => trivial)
      have hk1 : k ≠ w.heap.size + 1 := by
        have := hk.2.1
        omega
      simp only [hne _ _ _ _ hk1]
    · exact hB _ _ _ (hB _ _ _ (hB _ _ _ (hB _ _ _ (hB _ _ _ (hB _ _ _ (hB _ _ _ (hB _ _ _ PK'.out.bel)))))))
  · simp only [Bool.false_eq_true, if_true, if_false, Prod.mk.injEq] at h
    obtain ⟨rfl, rfl, rfl, rfl, rfl, rfl, rfl, rfl⟩ := h
    have q00 := blk_cell HP.out.o 0
    have hsz2 : w.heap.size + 1 + 1 = w.heap.size + 2 := rfl
    go_enter Tryd.func18, Tryd.ntmps18
    go_wp2_with (first
      | (go_at_call 29; with_reducible refine (HcN.out _).mono ?_; rintro e XN ⟨rfl, hd⟩; have PN := Aside0.mk (PlR.below (HP.out) hd.below); clear hd; have qsN := blk_cell PN.out.o 4; have qcN := blk_cell PN.out.out 4; have qfN := blk_frozen PN.out.out 4; have PN' := Aside0.mk (PlR.put (vA' := 0) (vB' := 0) (vC' := 0) (vN' := a0_4) (vS' := (⟨#[]⟩ : ByteArray)) (vK' := false) PN.out 4 (.int .i64 a0_4) rfl); have qkN := blk_cell PN'.out.o 0)
      | (go_at_call 29; with_reducible refine (HcS.out _).mono ?_; rintro e XS ⟨rfl, hd⟩; have PS := Aside0.mk (PlR.below (PN'.out) hd.below); clear hd; have qkS := blk_cell PS.out.o 0)
      | (go_at_call 29; with_reducible refine (HcA.out _).mono ?_; rintro e XA ⟨rfl, hd⟩; have PA := Aside0.mk (PlR.below (PS.out) hd.below); clear hd; have qsA := blk_cell PA.out.o 1; have qcA := blk_cell PA.out.out 1; have qfA := blk_frozen PA.out.out 1; have PA' := Aside0.mk (PlR.put (vA' := a0_1) (vB' := 0) (vC' := 0) (vN' := a0_4) (vS' := (⟨#[]⟩ : ByteArray)) (vK' := false) PA.out 1 (.int .i64 a0_1) rfl); have qkA := blk_cell PA'.out.o 0)
      | (go_at_call 29; with_reducible refine (HcB.out _).mono ?_; rintro e XB ⟨rfl, hd⟩; have PB := Aside0.mk (PlR.below (PA'.out) hd.below); clear hd; have qkB := blk_cell PB.out.o 0)
      | (go_at_call 29; with_reducible refine (HcC.out _).mono ?_; rintro e XC ⟨rfl, hd⟩; have PC := Aside0.mk (PlR.below (PB.out) hd.below); clear hd; have qkC := blk_cell PC.out.o 0)
      | (go_at_call 29; with_reducible refine (HcL.out _).mono ?_; rintro e XL ⟨rfl, hd⟩; have PL := Aside0.mk (PlR.below (PC.out) hd.below); clear hd; have qkL := blk_cell PL.out.o 0)
      | (go_at_call 29; with_reducible refine (HcK.out _).mono ?_; rintro e XK ⟨rfl, hd⟩; have PK := Aside0.mk (PlR.below (PL.out) hd.below); clear hd; have qkK := blk_cell PK.out.o 0; have hz := blk_frozen PK.out.res; have hpp := blk_cell PK.out.res; have hq := blk_cell PK.out.out))
    have hne : ∀ (V : World) (i j : Nat) (u : Value), j ≠ w.heap.size + 1 → (V.setCell ⟨w.heap.size + 1, i, none⟩ u).heap[j]? = V.heap[j]? := fun V i j u hj => Below.heap_setCell V ⟨w.heap.size + 1, i, none⟩ u j hj
    have hB : ∀ (V : World) (i : Nat) (u : Value), Below w.heap.size w V → Below w.heap.size w (V.setCell ⟨w.heap.size + 1, i, none⟩ u) := fun V i u h => h.setCell (p := ⟨w.heap.size + 1, i, none⟩) (by show w.heap.size ≤ w.heap.size + 1; omega) _
    refine bodyPost_ret (results_cell_row rfl _ _ (w.heap.size + 1) 33 #[.int .i64 a0_0, .int .i64 a0_1, .int .i64 0, .int .i64 0, .int .i64 a0_4, .string (⟨#[]⟩ : ByteArray), .slice none 0 0, .bool false] (0, 0) _ rfl ?_ Tryd.underlying33 rfl (by kernel_rfl)) rfl ⟨(.slice none 0 0), rfl, ?_, ?_⟩
    · have h1 := blk_set (blk_set (blk_set (blk_set (blk_set (blk_set (blk_set (blk_set (PK.out.res) 0 (.int .i64 a0_0)) 1 (.int .i64 a0_1)) 2 (.int .i64 0)) 3 (.int .i64 0)) 4 (.int .i64 a0_4)) 5 (.string (⟨#[]⟩ : ByteArray))) 6 (.slice none 0 0)) 7 (.bool false)
      rw [h1]
      first | done | rfl | simp
    · refine Kd.R_mono (Kd.R_lower (Kd.R_move (Kd.R_bound PK.out.r) (fun k hk => ?_)) (by omega)) (fun _ _ => trivial)
      have hk1 : k ≠ w.heap.size + 1 := by
        have := hk.2.1
        omega
      simp only [hne _ _ _ _ hk1]
    · exact hB _ _ _ (hB _ _ _ (hB _ _ _ (hB _ _ _ (hB _ _ _ (hB _ _ _ (hB _ _ _ (hB _ _ _ PK.out.bel)))))))
  · simp only [Bool.false_eq_true, if_true, if_false, Prod.mk.injEq] at h
    obtain ⟨rfl, rfl, rfl, rfl, rfl, rfl, rfl, rfl⟩ := h
    have q00 := blk_cell HP.out.o 0
    have hsz2 : w.heap.size + 1 + 1 = w.heap.size + 2 := rfl
    go_enter Tryd.func18, Tryd.ntmps18
    go_wp2_with (first
      | (go_at_call 29; with_reducible refine (HcN.out _).mono ?_; rintro e XN ⟨rfl, hd⟩; have PN := Aside0.mk (PlR.below (HP.out) hd.below); clear hd; have qsN := blk_cell PN.out.o 4; have qcN := blk_cell PN.out.out 4; have qfN := blk_frozen PN.out.out 4; have PN' := Aside0.mk (PlR.put (vA' := 0) (vB' := 0) (vC' := 0) (vN' := a0_4) (vS' := (⟨#[]⟩ : ByteArray)) (vK' := false) PN.out 4 (.int .i64 a0_4) rfl); have qkN := blk_cell PN'.out.o 0)
      | (go_at_call 29; with_reducible refine (HcS.out _).mono ?_; rintro e XS ⟨rfl, hd⟩; have PS := Aside0.mk (PlR.below (PN'.out) hd.below); clear hd; have qkS := blk_cell PS.out.o 0)
      | (go_at_call 29; with_reducible refine (HcA.out _).mono ?_; rintro e XA ⟨rfl, hd⟩; have PA := Aside0.mk (PlR.below (PS.out) hd.below); clear hd; have qkA := blk_cell PA.out.o 0)
      | (go_at_call 29; with_reducible refine (HcB.out _).mono ?_; rintro e XB ⟨rfl, hd⟩; have PB := Aside0.mk (PlR.below (PA.out) hd.below); clear hd; have qkB := blk_cell PB.out.o 0)
      | (go_at_call 29; with_reducible refine (HcC.out _).mono ?_; rintro e XC ⟨rfl, hd⟩; have PC := Aside0.mk (PlR.below (PB.out) hd.below); clear hd; have qkC := blk_cell PC.out.o 0)
      | (go_at_call 29; with_reducible refine (HcL.out _).mono ?_; rintro e XL ⟨rfl, hd⟩; have PL := Aside0.mk (PlR.below (PC.out) hd.below); clear hd; have qkL := blk_cell PL.out.o 0)
      | (go_at_call 29; with_reducible refine (HcK.out _).mono ?_; rintro e XK ⟨rfl, hd⟩; have PK := Aside0.mk (PlR.below (PL.out) hd.below); clear hd; have qsK := blk_cell PK.out.o 7; have qcK := blk_cell PK.out.out 7; have qfK := blk_frozen PK.out.out 7; have PK' := Aside0.mk (PlR.put (vA' := 0) (vB' := 0) (vC' := 0) (vN' := a0_4) (vS' := (⟨#[]⟩ : ByteArray)) (vK' := a0_7) PK.out 7 (.bool a0_7) rfl); have qkK := blk_cell PK'.out.o 0; have hz := blk_frozen PK'.out.res; have hpp := blk_cell PK'.out.res; have hq := blk_cell PK'.out.out))
    have hne : ∀ (V : World) (i j : Nat) (u : Value), j ≠ w.heap.size + 1 → (V.setCell ⟨w.heap.size + 1, i, none⟩ u).heap[j]? = V.heap[j]? := fun V i j u hj => Below.heap_setCell V ⟨w.heap.size + 1, i, none⟩ u j hj
    have hB : ∀ (V : World) (i : Nat) (u : Value), Below w.heap.size w V → Below w.heap.size w (V.setCell ⟨w.heap.size + 1, i, none⟩ u) := fun V i u h => h.setCell (p := ⟨w.heap.size + 1, i, none⟩) (by show w.heap.size ≤ w.heap.size + 1; omega) _
    refine bodyPost_ret (results_cell_row rfl _ _ (w.heap.size + 1) 33 #[.int .i64 a0_0, .int .i64 0, .int .i64 0, .int .i64 0, .int .i64 a0_4, .string (⟨#[]⟩ : ByteArray), .slice none 0 0, .bool a0_7] (0, 0) _ rfl ?_ Tryd.underlying33 rfl (by kernel_rfl)) rfl ⟨(.slice none 0 0), rfl, ?_, ?_⟩
    · have h1 := blk_set (blk_set (blk_set (blk_set (blk_set (blk_set (blk_set (blk_set (PK'.out.res) 0 (.int .i64 a0_0)) 1 (.int .i64 0)) 2 (.int .i64 0)) 3 (.int .i64 0)) 4 (.int .i64 a0_4)) 5 (.string (⟨#[]⟩ : ByteArray))) 6 (.slice none 0 0)) 7 (.bool a0_7)
      rw [h1]
      first | done | rfl | simp
    · refine Kd.R_mono (Kd.R_lower (Kd.R_move (Kd.R_bound PK'.out.r) (fun k hk => ?_)) (by omega)) (fun _ _ => trivial)
      have hk1 : k ≠ w.heap.size + 1 := by
        have := hk.2.1
        omega
      simp only [hne _ _ _ _ hk1]
    · exact hB _ _ _ (hB _ _ _ (hB _ _ _ (hB _ _ _ (hB _ _ _ (hB _ _ _ (hB _ _ _ (hB _ _ _ PK'.out.bel)))))))
  · simp only [Bool.false_eq_true, if_true, if_false, Prod.mk.injEq] at h
    obtain ⟨rfl, rfl, rfl, rfl, rfl, rfl, rfl, rfl⟩ := h
    have q00 := blk_cell HP.out.o 0
    have hsz2 : w.heap.size + 1 + 1 = w.heap.size + 2 := rfl
    go_enter Tryd.func18, Tryd.ntmps18
    go_wp2_with (first
      | (go_at_call 29; with_reducible refine (HcN.out _).mono ?_; rintro e XN ⟨rfl, hd⟩; have PN := Aside0.mk (PlR.below (HP.out) hd.below); clear hd; have qkN := blk_cell PN.out.o 0)
      | (go_at_call 29; with_reducible refine (HcS.out _).mono ?_; rintro e XS ⟨rfl, hd⟩; have PS := Aside0.mk (PlR.below (PN.out) hd.below); clear hd; have qkS := blk_cell PS.out.o 0)
      | (go_at_call 29; with_reducible refine (HcA.out _).mono ?_; rintro e XA ⟨rfl, hd⟩; have PA := Aside0.mk (PlR.below (PS.out) hd.below); clear hd; have qsA := blk_cell PA.out.o 1; have qcA := blk_cell PA.out.out 1; have qfA := blk_frozen PA.out.out 1; have PA' := Aside0.mk (PlR.put (vA' := a0_1) (vB' := 0) (vC' := 0) (vN' := 0) (vS' := (⟨#[]⟩ : ByteArray)) (vK' := false) PA.out 1 (.int .i64 a0_1) rfl); have qkA := blk_cell PA'.out.o 0)
      | (go_at_call 29; with_reducible refine (HcB.out _).mono ?_; rintro e XB ⟨rfl, hd⟩; have PB := Aside0.mk (PlR.below (PA'.out) hd.below); clear hd; have qsB := blk_cell PB.out.o 2; have qcB := blk_cell PB.out.out 2; have qfB := blk_frozen PB.out.out 2; have PB' := Aside0.mk (PlR.put (vA' := a0_1) (vB' := a0_2) (vC' := 0) (vN' := 0) (vS' := (⟨#[]⟩ : ByteArray)) (vK' := false) PB.out 2 (.int .i64 a0_2) rfl); have qkB := blk_cell PB'.out.o 0)
      | (go_at_call 29; with_reducible refine (HcC.out _).mono ?_; rintro e XC ⟨rfl, hd⟩; have PC := Aside0.mk (PlR.below (PB'.out) hd.below); clear hd; have qsC := blk_cell PC.out.o 3; have qcC := blk_cell PC.out.out 3; have qfC := blk_frozen PC.out.out 3; have PC' := Aside0.mk (PlR.put (vA' := a0_1) (vB' := a0_2) (vC' := a0_3) (vN' := 0) (vS' := (⟨#[]⟩ : ByteArray)) (vK' := false) PC.out 3 (.int .i64 a0_3) rfl); have qkC := blk_cell PC'.out.o 0)
      | (go_at_call 29; with_reducible refine (HcL.out _).mono ?_; rintro e XL ⟨rfl, hd⟩; have PL := Aside0.mk (PlR.below (PC'.out) hd.below); clear hd; have qkL := blk_cell PL.out.o 0)
      | (go_at_call 29; with_reducible refine (HcK.out _).mono ?_; rintro e XK ⟨rfl, hd⟩; have PK := Aside0.mk (PlR.below (PL.out) hd.below); clear hd; have qkK := blk_cell PK.out.o 0; have hz := blk_frozen PK.out.res; have hpp := blk_cell PK.out.res; have hq := blk_cell PK.out.out))
    have hne : ∀ (V : World) (i j : Nat) (u : Value), j ≠ w.heap.size + 1 → (V.setCell ⟨w.heap.size + 1, i, none⟩ u).heap[j]? = V.heap[j]? := fun V i j u hj => Below.heap_setCell V ⟨w.heap.size + 1, i, none⟩ u j hj
    have hB : ∀ (V : World) (i : Nat) (u : Value), Below w.heap.size w V → Below w.heap.size w (V.setCell ⟨w.heap.size + 1, i, none⟩ u) := fun V i u h => h.setCell (p := ⟨w.heap.size + 1, i, none⟩) (by show w.heap.size ≤ w.heap.size + 1; omega) _
    refine bodyPost_ret (results_cell_row rfl _ _ (w.heap.size + 1) 33 #[.int .i64 a0_0, .int .i64 a0_1, .int .i64 a0_2, .int .i64 a0_3, .int .i64 0, .string (⟨#[]⟩ : ByteArray), .slice none 0 0, .bool false] (0, 0) _ rfl ?_ Tryd.underlying33 rfl (by kernel_rfl)) rfl ⟨(.slice none 0 0), rfl, ?_, ?_⟩
    · have h1 := blk_set (blk_set (blk_set (blk_set (blk_set (blk_set (blk_set (blk_set (PK.out.res) 0 (.int .i64 a0_0)) 1 (.int .i64 a0_1)) 2 (.int .i64 a0_2)) 3 (.int .i64 a0_3)) 4 (.int .i64 0)) 5 (.string (⟨#[]⟩ : ByteArray))) 6 (.slice none 0 0)) 7 (.bool false)
      rw [h1]
      first | done | rfl | simp
    · refine Kd.R_mono (Kd.R_lower (Kd.R_move (Kd.R_bound PK.out.r) (fun k hk => ?_)) (by omega)) (fun _ _ => trivial)
      have hk1 : k ≠ w.heap.size + 1 := by
        have := hk.2.1
        omega
      simp only [hne _ _ _ _ hk1]
    · exact hB _ _ _ (hB _ _ _ (hB _ _ _ (hB _ _ _ (hB _ _ _ (hB _ _ _ (hB _ _ _ (hB _ _ _ PK.out.bel)))))))
  · simp only [Bool.false_eq_true, if_true, if_false, Prod.mk.injEq] at h
    obtain ⟨rfl, rfl, rfl, rfl, rfl, rfl, rfl, rfl⟩ := h
    have q00 := blk_cell HP.out.o 0
    have hsz2 : w.heap.size + 1 + 1 = w.heap.size + 2 := rfl
    go_enter Tryd.func18, Tryd.ntmps18
    go_wp2_with (first
      | (go_at_call 29; with_reducible refine (HcN.out _).mono ?_; rintro e XN ⟨rfl, hd⟩; have PN := Aside0.mk (PlR.below (HP.out) hd.below); clear hd; have qkN := blk_cell PN.out.o 0)
      | (go_at_call 29; with_reducible refine (HcS.out _).mono ?_; rintro e XS ⟨rfl, hd⟩; have PS := Aside0.mk (PlR.below (PN.out) hd.below); clear hd; have qkS := blk_cell PS.out.o 0)
      | (go_at_call 29; with_reducible refine (HcA.out _).mono ?_; rintro e XA ⟨rfl, hd⟩; have PA := Aside0.mk (PlR.below (PS.out) hd.below); clear hd; have qkA := blk_cell PA.out.o 0)
      | (go_at_call 29; with_reducible refine (HcB.out _).mono ?_; rintro e XB ⟨rfl, hd⟩; have PB := Aside0.mk (PlR.below (PA.out) hd.below); clear hd; have qkB := blk_cell PB.out.o 0)
      | (go_at_call 29; with_reducible refine (HcC.out _).mono ?_; rintro e XC ⟨rfl, hd⟩; have PC := Aside0.mk (PlR.below (PB.out) hd.below); clear hd; have qkC := blk_cell PC.out.o 0)
      | (go_at_call 29; with_reducible refine (HcL.out _).mono ?_; rintro e XL ⟨rfl, hd⟩; have PL := Aside0.mk (PlR.below (PC.out) hd.below); clear hd; have qkL := blk_cell PL.out.o 0)
      | (go_at_call 29; with_reducible refine (HcK.out _).mono ?_; rintro e XK ⟨rfl, hd⟩; have PK := Aside0.mk (PlR.below (PL.out) hd.below); clear hd; have qsK := blk_cell PK.out.o 7; have qcK := blk_cell PK.out.out 7; have qfK := blk_frozen PK.out.out 7; have PK' := Aside0.mk (PlR.put (vA' := 0) (vB' := 0) (vC' := 0) (vN' := 0) (vS' := (⟨#[]⟩ : ByteArray)) (vK' := a0_7) PK.out 7 (.bool a0_7) rfl); have qkK := blk_cell PK'.out.o 0; have hz := blk_frozen PK'.out.res; have hpp := blk_cell PK'.out.res; have hq := blk_cell PK'.out.out))
    have hne : ∀ (V : World) (i j : Nat) (u : Value), j ≠ w.heap.size + 1 → (V.setCell ⟨w.heap.size + 1, i, none⟩ u).heap[j]? = V.heap[j]? := fun V i j u hj => Below.heap_setCell V ⟨w.heap.size + 1, i, none⟩ u j hj
    have hB : ∀ (V : World) (i : Nat) (u : Value), Below w.heap.size w V → Below w.heap.size w (V.setCell ⟨w.heap.size + 1, i, none⟩ u) := fun V i u h => h.setCell (p := ⟨w.heap.size + 1, i, none⟩) (by show w.heap.size ≤ w.heap.size + 1; omega) _
    refine bodyPost_ret (results_cell_row rfl _ _ (w.heap.size + 1) 33 #[.int .i64 a0_0, .int .i64 0, .int .i64 0, .int .i64 0, .int .i64 0, .string (⟨#[]⟩ : ByteArray), .slice none 0 0, .bool a0_7] (0, 0) _ rfl ?_ Tryd.underlying33 rfl (by kernel_rfl)) rfl ⟨(.slice none 0 0), rfl, ?_, ?_⟩
    · have h1 := blk_set (blk_set (blk_set (blk_set (blk_set (blk_set (blk_set (blk_set (PK'.out.res) 0 (.int .i64 a0_0)) 1 (.int .i64 0)) 2 (.int .i64 0)) 3 (.int .i64 0)) 4 (.int .i64 0)) 5 (.string (⟨#[]⟩ : ByteArray))) 6 (.slice none 0 0)) 7 (.bool a0_7)
      rw [h1]
      first | done | rfl | simp
    · refine Kd.R_mono (Kd.R_lower (Kd.R_move (Kd.R_bound PK'.out.r) (fun k hk => ?_)) (by omega)) (fun _ _ => trivial)
      have hk1 : k ≠ w.heap.size + 1 := by
        have := hk.2.1
        omega
      simp only [hne _ _ _ _ hk1]
    · exact hB _ _ _ (hB _ _ _ (hB _ _ _ (hB _ _ _ (hB _ _ _ (hB _ _ _ (hB _ _ _ (hB _ _ _ PK'.out.bel)))))))
  · simp only [Bool.false_eq_true, if_true, if_false, Prod.mk.injEq] at h
    obtain ⟨rfl, rfl, rfl, rfl, rfl, rfl, rfl, rfl⟩ := h
    have q00 := blk_cell HP.out.o 0
    have hsz2 : w.heap.size + 1 + 1 = w.heap.size + 2 := rfl
    go_enter Tryd.func18, Tryd.ntmps18
    go_wp2_with (first
      | (go_at_call 29; with_reducible refine (HcN.out _).mono ?_; rintro e XN ⟨rfl, hd⟩; have PN := Aside0.mk (PlR.below (HP.out) hd.below); clear hd; have qsN := blk_cell PN.out.o 4; have qcN := blk_cell PN.out.out 4; have qfN := blk_frozen PN.out.out 4; have PN' := Aside0.mk (PlR.put (vA' := 0) (vB' := 0) (vC' := 0) (vN' := a0_4) (vS' := (⟨#[]⟩ : ByteArray)) (vK' := false) PN.out 4 (.int .i64 a0_4) rfl); have qkN := blk_cell PN'.out.o 0)
      | (go_at_call 29; with_reducible refine (HcS.out _).mono ?_; rintro e XS ⟨rfl, hd⟩; have PS := Aside0.mk (PlR.below (PN'.out) hd.below); clear hd; have qkS := blk_cell PS.out.o 0)
      | (go_at_call 29; with_reducible refine (HcA.out _).mono ?_; rintro e XA ⟨rfl, hd⟩; have PA := Aside0.mk (PlR.below (PS.out) hd.below); clear hd; have qkA := blk_cell PA.out.o 0)
      | (go_at_call 29; with_reducible refine (HcB.out _).mono ?_; rintro e XB ⟨rfl, hd⟩; have PB := Aside0.mk (PlR.below (PA.out) hd.below); clear hd; have qkB := blk_cell PB.out.o 0)
      | (go_at_call 29; with_reducible refine (HcC.out _).mono ?_; rintro e XC ⟨rfl, hd⟩; have PC := Aside0.mk (PlR.below (PB.out) hd.below); clear hd; have qkC := blk_cell PC.out.o 0)
      | (go_at_call 29; with_reducible refine (HcL.out _).mono ?_; rintro e XL ⟨rfl, hd⟩; have PL := Aside0.mk (PlR.below (PC.out) hd.below); clear hd; have qsL := blk_cell PL.out.o 6)
      | ((with_reducible refine gate_dst (N := 40) rfl ?_); refine Kd.R_lit (Kd.int .i64) XL.heap.size 3 ?hg (N := 40) ?hd (xs := ([] : List Int)) (inner := []) (ok := fun _ => True) (okp := fun _ => True) ?hr ?hp (fun _ hk => hk) trivial (Below.refl _ _) (Nat.le_refl _) (by simp) ?_; (case hd => rfl); (case hg => rfl); (case hr => first | (go_simp; done) | (go_simp; rfl)); (case hp => exact (Reps.none _ _)); intro vn w5 ho6 hb hg_ hnew_; clear hg_ hnew_; have HO6 := Aside0.mk ho6; have HB6 := Aside0.mk hb; have PL5 := Aside0.mk (PlR.below PL.out hb); have qsL5 := blk_cell PL5.out.o 6; clear ho6 hb)
      | ((with_reducible refine gate_builtin (b := .append) (xs := #[.tmp 40, .tmp 42]) rfl ?_); at_builtin; refine Kd.R_append_rows (Kd.int .i64) (w0 := XL) XL.heap.size rfl (.tmp 40) (.tmp 42) 31 3 (.int .i64 0) 8 rfl Tryd.underlying31 info3 rfl (by decide) (by omega) vn [] l0_6 _ _ _ (fun _ => True) (fun _ => False) rfl rfl ?aO ?aR (fun _ _ h => h) (fun _ h => h.elim) ?aF ?aB ?aS ?aL ?_; (case aR => exact Kd.C_below HR.out PL5.out.bel); (case aB => exact HB6.out); (case aF => exact (fun _ _ => trivial)); (case aO => exact HO6.out); (case aS => exact HB6.out.size); (case aL => have := HLL.out; simp; omega); intro v120 w9 ho hb hg hat; rw [List.nil_append] at ho; have PL9 := Aside0.mk (PlR.below PL.out hb); obtain ⟨Ao, co, rfl⟩ := Kd.R_slice ho; have HO9 := Aside0.mk (Kd.R_mono (Kd.R_lower ho (show w.heap.size + 3 ≤ XL.heap.size by have := PL.out.lt; omega)) (fun _ _ => trivial)); have PL' := Aside0.mk (PlR.putL PL9.out HO9.out); have qcL := blk_cell PL9.out.out 6; have qfL := blk_frozen PL9.out.out 6; have qkL := blk_cell PL'.out.o 0; clear ho hb hg hat)
      | (go_at_call 29; with_reducible refine (HcK.out _).mono ?_; rintro e XK ⟨rfl, hd⟩; have PK := Aside0.mk (PlR.below (PL'.out) hd.below); clear hd; have qkK := blk_cell PK.out.o 0; have hz := blk_frozen PK.out.res; have hpp := blk_cell PK.out.res; have hq := blk_cell PK.out.out))
    have hne : ∀ (V : World) (i j : Nat) (u : Value), j ≠ w.heap.size + 1 → (V.setCell ⟨w.heap.size + 1, i, none⟩ u).heap[j]? = V.heap[j]? := fun V i j u hj => Below.heap_setCell V ⟨w.heap.size + 1, i, none⟩ u j hj
    have hB : ∀ (V : World) (i : Nat) (u : Value), Below w.heap.size w V → Below w.heap.size w (V.setCell ⟨w.heap.size + 1, i, none⟩ u) := fun V i u h => h.setCell (p := ⟨w.heap.size + 1, i, none⟩) (by show w.heap.size ≤ w.heap.size + 1; omega) _
    refine bodyPost_ret (results_cell_row rfl _ _ (w.heap.size + 1) 33 #[.int .i64 a0_0, .int .i64 0, .int .i64 0, .int .i64 0, .int .i64 a0_4, .string (⟨#[]⟩ : ByteArray), .slice Ao l0_6.length co, .bool false] (0, 0) _ rfl ?_ Tryd.underlying33 rfl (by kernel_rfl)) rfl ⟨(.slice Ao l0_6.length co), rfl, ?_, ?_⟩
    · have h1 := blk_set (blk_set (blk_set (blk_set (blk_set (blk_set (blk_set (blk_set (PK.out.res) 0 (.int .i64 a0_0)) 1 (.int .i64 0)) 2 (.int .i64 0)) 3 (.int .i64 0)) 4 (.int .i64 a0_4)) 5 (.string (⟨#[]⟩ : ByteArray))) 6 (.slice Ao l0_6.length co)) 7 (.bool false)
      rw [h1]
      first | done | rfl | simp
    · refine Kd.R_mono (Kd.R_lower (Kd.R_move (Kd.R_bound PK.out.r) (fun k hk => ?_)) (by omega)) (fun _ _ => trivial)
      have hk1 : k ≠ w.heap.size + 1 := by
        have := hk.2.1
        omega
      simp only [hne _ _ _ _ hk1]
    · exact hB _ _ _ (hB _ _ _ (hB _ _ _ (hB _ _ _ (hB _ _ _ (hB _ _ _ (hB _ _ _ (hB _ _ _ PK.out.bel)))))))
  · simp only [Bool.false_eq_true, if_true, if_false, Prod.mk.injEq] at h
    obtain ⟨rfl, rfl, rfl, rfl, rfl, rfl, rfl, rfl⟩ := h
    have q00 := blk_cell HP.out.o 0
    have hsz2 : w.heap.size + 1 + 1 = w.heap.size + 2 := rfl
    go_enter Tryd.func18, Tryd.ntmps18
    go_wp2_with (first
      | (go_at_call 29; with_reducible refine (HcN.out _).mono ?_; rintro e XN ⟨rfl, hd⟩; have PN := Aside0.mk (PlR.below (HP.out) hd.below); clear hd; have qsN := blk_cell PN.out.o 4; have qcN := blk_cell PN.out.out 4; have qfN := blk_frozen PN.out.out 4; have PN' := Aside0.mk (PlR.put (vA' := 0) (vB' := 0) (vC' := 0) (vN' := a0_4) (vS' := (⟨#[]⟩ : ByteArray)) (vK' := false) PN.out 4 (.int .i64 a0_4) rfl); have qkN := blk_cell PN'.out.o 0)
      | (go_at_call 29; with_reducible refine (HcS.out _).mono ?_; rintro e XS ⟨rfl, hd⟩; have PS := Aside0.mk (PlR.below (PN'.out) hd.below); clear hd; have qkS := blk_cell PS.out.o 0)
      | (go_at_call 29; with_reducible refine (HcA.out _).mono ?_; rintro e XA ⟨rfl, hd⟩; have PA := Aside0.mk (PlR.below (PS.out) hd.below); clear hd; have qsA := blk_cell PA.out.o 1; have qcA := blk_cell PA.out.out 1; have qfA := blk_frozen PA.out.out 1; have PA' := Aside0.mk (PlR.put (vA' := a0_1) (vB' := 0) (vC' := 0) (vN' := a0_4) (vS' := (⟨#[]⟩ : ByteArray)) (vK' := false) PA.out 1 (.int .i64 a0_1) rfl); have qkA := blk_cell PA'.out.o 0)
      | (go_at_call 29; with_reducible refine (HcB.out _).mono ?_; rintro e XB ⟨rfl, hd⟩; have PB := Aside0.mk (PlR.below (PA'.out) hd.below); clear hd; have qkB := blk_cell PB.out.o 0)
      | (go_at_call 29; with_reducible refine (HcC.out _).mono ?_; rintro e XC ⟨rfl, hd⟩; have PC := Aside0.mk (PlR.below (PB.out) hd.below); clear hd; have qkC := blk_cell PC.out.o 0)
      | (go_at_call 29; with_reducible refine (HcL.out _).mono ?_; rintro e XL ⟨rfl, hd⟩; have PL := Aside0.mk (PlR.below (PC.out) hd.below); clear hd; have qsL := blk_cell PL.out.o 6)
      | ((with_reducible refine gate_dst (N := 40) rfl ?_); refine Kd.R_lit (Kd.int .i64) XL.heap.size 3 ?hg (N := 40) ?hd (xs := ([] : List Int)) (inner := []) (ok := fun _ => True) (okp := fun _ => True) ?hr ?hp (fun _ hk => hk) trivial (Below.refl _ _) (Nat.le_refl _) (by simp) ?_; (case hd => rfl); (case hg => rfl); (case hr => first | (go_simp; done) | (go_simp; rfl)); (case hp => exact (Reps.none _ _)); intro vn w5 ho6 hb hg_ hnew_; clear hg_ hnew_; have HO6 := Aside0.mk ho6; have HB6 := Aside0.mk hb; have PL5 := Aside0.mk (PlR.below PL.out hb); have qsL5 := blk_cell PL5.out.o 6; clear ho6 hb)
      | ((with_reducible refine gate_builtin (b := .append) (xs := #[.tmp 40, .tmp 42]) rfl ?_); at_builtin; refine Kd.R_append_rows (Kd.int .i64) (w0 := XL) XL.heap.size rfl (.tmp 40) (.tmp 42) 31 3 (.int .i64 0) 8 rfl Tryd.underlying31 info3 rfl (by decide) (by omega) vn [] l0_6 _ _ _ (fun _ => True) (fun _ => False) rfl rfl ?aO ?aR (fun _ _ h => h) (fun _ h => h.elim) ?aF ?aB ?aS ?aL ?_; (case aR => exact Kd.C_below HR.out PL5.out.bel); (case aB => exact HB6.out); (case aF => exact (fun _ _ => trivial)); (case aO => exact HO6.out); (case aS => exact HB6.out.size); (case aL => have := HLL.out; simp; omega); intro v120 w9 ho hb hg hat; rw [List.nil_append] at ho; have PL9 := Aside0.mk (PlR.below PL.out hb); obtain ⟨Ao, co, rfl⟩ := Kd.R_slice ho; have HO9 := Aside0.mk (Kd.R_mono (Kd.R_lower ho (show w.heap.size + 3 ≤ XL.heap.size by have := PL.out.lt; omega)) (fun _ _ => trivial)); have PL' := Aside0.mk (PlR.putL PL9.out HO9.out); have qcL := blk_cell PL9.out.out 6; have qfL := blk_frozen PL9.out.out 6; have qkL := blk_cell PL'.out.o 0; clear ho hb hg hat)
      | (go_at_call 29; with_reducible refine (HcK.out _).mono ?_; rintro e XK ⟨rfl, hd⟩; have PK := Aside0.mk (PlR.below (PL'.out) hd.below); clear hd; have qkK := blk_cell PK.out.o 0; have hz := blk_frozen PK.out.res; have hpp := blk_cell PK.out.res; have hq := blk_cell PK.out.out))
    have hne : ∀ (V : World) (i j : Nat) (u : Value), j ≠ w.heap.size + 1 → (V.setCell ⟨w.heap.size + 1, i, none⟩ u).heap[j]? = V.heap[j]? := fun V i j u hj => Below.heap_setCell V ⟨w.heap.size + 1, i, none⟩ u j hj
    have hB : ∀ (V : World) (i : Nat) (u : Value), Below w.heap.size w V → Below w.heap.size w (V.setCell ⟨w.heap.size + 1, i, none⟩ u) := fun V i u h => h.setCell (p := ⟨w.heap.size + 1, i, none⟩) (by show w.heap.size ≤ w.heap.size + 1; omega) _
    refine bodyPost_ret (results_cell_row rfl _ _ (w.heap.size + 1) 33 #[.int .i64 a0_0, .int .i64 a0_1, .int .i64 0, .int .i64 0, .int .i64 a0_4, .string (⟨#[]⟩ : ByteArray), .slice Ao l0_6.length co, .bool false] (0, 0) _ rfl ?_ Tryd.underlying33 rfl (by kernel_rfl)) rfl ⟨(.slice Ao l0_6.length co), rfl, ?_, ?_⟩
    · have h1 := blk_set (blk_set (blk_set (blk_set (blk_set (blk_set (blk_set (blk_set (PK.out.res) 0 (.int .i64 a0_0)) 1 (.int .i64 a0_1)) 2 (.int .i64 0)) 3 (.int .i64 0)) 4 (.int .i64 a0_4)) 5 (.string (⟨#[]⟩ : ByteArray))) 6 (.slice Ao l0_6.length co)) 7 (.bool false)
      rw [h1]
      first | done | rfl | simp
    · refine Kd.R_mono (Kd.R_lower (Kd.R_move (Kd.R_bound PK.out.r) (fun k hk => ?_)) (by omega)) (fun _ _ => trivial)
      have hk1 : k ≠ w.heap.size + 1 := by
        have := hk.2.1
        omega
      simp only [hne _ _ _ _ hk1]
    · exact hB _ _ _ (hB _ _ _ (hB _ _ _ (hB _ _ _ (hB _ _ _ (hB _ _ _ (hB _ _ _ (hB _ _ _ PK.out.bel)))))))
  · simp only [Bool.false_eq_true, if_true, if_false, Prod.mk.injEq] at h
    obtain ⟨rfl, rfl, rfl, rfl, rfl, rfl, rfl, rfl⟩ := h
    have q00 := blk_cell HP.out.o 0
    have hsz2 : w.heap.size + 1 + 1 = w.heap.size + 2 := rfl
    go_enter Tryd.func18, Tryd.ntmps18
    go_wp2_with (first
      | (go_at_call 29; with_reducible refine (HcN.out _).mono ?_; rintro e XN ⟨rfl, hd⟩; have PN := Aside0.mk (PlR.below (HP.out) hd.below); clear hd; have qkN := blk_cell PN.out.o 0)
      | (go_at_call 29; with_reducible refine (HcS.out _).mono ?_; rintro e XS ⟨rfl, hd⟩; have PS := Aside0.mk (PlR.below (PN.out) hd.below); clear hd; have qkS := blk_cell PS.out.o 0)
      | (go_at_call 29; with_reducible refine (HcA.out _).mono ?_; rintro e XA ⟨rfl, hd⟩; have PA := Aside0.mk (PlR.below (PS.out) hd.below); clear hd; have qkA := blk_cell PA.out.o 0)
      | (go_at_call 29; with_reducible refine (HcB.out _).mono ?_; rintro e XB ⟨rfl, hd⟩; have PB := Aside0.mk (PlR.below (PA.out) hd.below); clear hd; have qkB := blk_cell PB.out.o 0)
      | (go_at_call 29; with_reducible refine (HcC.out _).mono ?_; rintro e XC ⟨rfl, hd⟩; have PC := Aside0.mk (PlR.below (PB.out) hd.below); clear hd; have qkC := blk_cell PC.out.o 0)
      | (go_at_call 29; with_reducible refine (HcL.out _).mono ?_; rintro e XL ⟨rfl, hd⟩; have PL := Aside0.mk (PlR.below (PC.out) hd.below); clear hd; have qkL := blk_cell PL.out.o 0)
      | (go_at_call 29; with_reducible refine (HcK.out _).mono ?_; rintro e XK ⟨rfl, hd⟩; have PK := Aside0.mk (PlR.below (PL.out) hd.below); clear hd; have qkK := blk_cell PK.out.o 0; have hz := blk_frozen PK.out.res; have hpp := blk_cell PK.out.res; have hq := blk_cell PK.out.out))
    have hne : ∀ (V : World) (i j : Nat) (u : Value), j ≠ w.heap.size + 1 → (V.setCell ⟨w.heap.size + 1, i, none⟩ u).heap[j]? = V.heap[j]? := fun V i j u hj => Below.heap_setCell V ⟨w.heap.size + 1, i, none⟩ u j hj
    have hB : ∀ (V : World) (i : Nat) (u : Value), Below w.heap.size w V → Below w.heap.size w (V.setCell ⟨w.heap.size + 1, i, none⟩ u) := fun V i u h => h.setCell (p := ⟨w.heap.size + 1, i, none⟩) (by show w.heap.size ≤ w.heap.size + 1; omega) _
    refine bodyPost_ret (results_cell_row rfl _ _ (w.heap.size + 1) 33 #[.int .i64 a0_0, .int .i64 0, .int .i64 0, .int .i64 0, .int .i64 0, .string (⟨#[]⟩ : ByteArray), .slice none 0 0, .bool false] (0, 0) _ rfl ?_ Tryd.underlying33 rfl (by kernel_rfl)) rfl ⟨(.slice none 0 0), rfl, ?_, ?_⟩
    · have h1 := blk_set (blk_set (blk_set (blk_set (blk_set (blk_set (blk_set (blk_set (PK.out.res) 0 (.int .i64 a0_0)) 1 (.int .i64 0)) 2 (.int .i64 0)) 3 (.int .i64 0)) 4 (.int .i64 0)) 5 (.string (⟨#[]⟩ : ByteArray))) 6 (.slice none 0 0)) 7 (.bool false)
      rw [h1]
      first | done | rfl | simp
    · refine Kd.R_mono (Kd.R_lower (Kd.R_move (Kd.R_bound PK.out.r) (fun k hk => ?_)) (by omega)) (fun _ _ => trivial)
      have hk1 : k ≠ w.heap.size + 1 := by
        have := hk.2.1
        omega
      simp only [hne _ _ _ _ hk1]
    · exact hB _ _ _ (hB _ _ _ (hB _ _ _ (hB _ _ _ (hB _ _ _ (hB _ _ _ (hB _ _ _ (hB _ _ _ PK.out.bel)))))))

end Go.Proofs.YtbjdiaefchcbjaaDoor.PKindFields
