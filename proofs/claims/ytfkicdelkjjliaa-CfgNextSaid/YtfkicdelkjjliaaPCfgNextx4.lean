-- written by wip/print2.py
import Derived.Test.YtfkicdelkjjliaaPCfgNextx0
import Derived.Test.YtfkicdelkjjliaaPCfgNextx1
import Derived.Test.YtfkicdelkjjliaaPCfgNextx2
import Derived.Test.YtfkicdelkjjliaaPCfgNextx3
namespace Go.Proofs.Ytfkicdelkjjliaa.PCfgNext
open Go.RowKit Go.Proofs.YtfkicdelkjjliaaW.PrintWords Go.Proofs.YtfkicdelkjjliaaW.PrintLast Go.Proofs.YtfkicdelkjjliaaW.PrintMore
attribute [local go_sem] max2_int min2_int max_two min_two max_three min_three max_four min_four   -- for this text's walks alone
set_option linter.unusedVariables false
set_option linter.unusedSimpArgs false

/-! ### hallmarklaw07_lives: function 12 -/
def hallmarklaw07_lives.f (k : Nat)  : Option (Bool) := (some (([(⟨([] : List Int), ([] : List (S84)), (⟨1, 0, 1, 2, ([] : List Int), ([] : List Int)⟩ : S32)⟩ : S34), (⟨([] : List Int), ([] : List (S84)), (⟨0, 0, 3, 0, ([] : List Int), ([] : List Int)⟩ : S32)⟩ : S34), (⟨([] : List Int), ([] : List (S84)), (⟨0, 0, 3, 0, ([] : List Int), ([] : List Int)⟩ : S32)⟩ : S34), (⟨([] : List Int), ([] : List (S84)), (⟨2, 0, 0, 0, ([] : List Int), ([] : List Int)⟩ : S32)⟩ : S34)] : List (S34)) : List (S34))).bind fun y152 => ((cfg_Order.f 0 y152).bind fun t156 => ((hallmarkref04_Ints.f k t156 (([0, 2, 1, 3] : List Int))).bind fun t162 => (if t162 = true then (if 0 < (y152.length : Int) then ((cfg_Next.f ((rd_T34 y152 0).f0) ((rd_T34 y152 0).f1) ((rd_T34 y152 0).f2.f0) ((rd_T34 y152 0).f2.f1) ((rd_T34 y152 0).f2.f2) ((rd_T34 y152 0).f2.f3) ((rd_T34 y152 0).f2.f4) ((rd_T34 y152 0).f2.f5)).bind fun t164 => ((hallmarkref04_Ints.f k t164 (([1, 2] : List Int))).bind fun t170 => (some t170))) else (none)) else (some false))))
theorem hallmarklaw07_lives.mono : ∀ k, LeO (hallmarklaw07_lives.f k ) (hallmarklaw07_lives.f (k + 1) ) := by
  intro  k
  unfold hallmarklaw07_lives.f
  repeat' first
      | (with_reducible exact hallmarkref04_Ints.mono _ _ _)
      | (with_reducible exact LeO.refl _)
      | (with_reducible exact LeO.none _)
      | (with_reducible refine LeO.ite ?_ ?_)
      | (with_reducible refine LeO.bind ?_ (fun _ => ?_))
      | exact hallmarkref04_Ints.mono _ _ _
      | exact LeO.none _
      | refine LeO.ite ?_ ?_
      | refine LeO.bind ?_ (fun _ => ?_)
set_option maxHeartbeats 8000000 in
set_option maxRecDepth 100000 in
theorem hallmarklaw07_lives.calls (k : Nat)  (r : Bool) (w : World) (h : hallmarklaw07_lives.f k  = some r) :
    Calls Try.prog 12 #[] w fun e w' => e = .returned (.bool r) ∧ Below w.heap.size w w' := by
  have hu32 := Try.underlying32
  have hu34 := Try.underlying34
  have hu24 := Try.underlying24
  have HB := Aside0.mk (Below.refl w.heap.size w)
  have H : ((some (([(⟨([] : List Int), ([] : List (S84)), (⟨1, 0, 1, 2, ([] : List Int), ([] : List Int)⟩ : S32)⟩ : S34), (⟨([] : List Int), ([] : List (S84)), (⟨0, 0, 3, 0, ([] : List Int), ([] : List Int)⟩ : S32)⟩ : S34), (⟨([] : List Int), ([] : List (S84)), (⟨0, 0, 3, 0, ([] : List Int), ([] : List Int)⟩ : S32)⟩ : S34), (⟨([] : List Int), ([] : List (S84)), (⟨2, 0, 0, 0, ([] : List Int), ([] : List Int)⟩ : S32)⟩ : S34)] : List (S34)) : List (S34))).bind fun y152 => ((cfg_Order.f 0 y152).bind fun t156 => ((hallmarkref04_Ints.f k t156 (([0, 2, 1, 3] : List Int))).bind fun t162 => (if t162 = true then (if 0 < (y152.length : Int) then ((cfg_Next.f ((rd_T34 y152 0).f0) ((rd_T34 y152 0).f1) ((rd_T34 y152 0).f2.f0) ((rd_T34 y152 0).f2.f1) ((rd_T34 y152 0).f2.f2) ((rd_T34 y152 0).f2.f3) ((rd_T34 y152 0).f2.f4) ((rd_T34 y152 0).f2.f5)).bind fun t164 => ((hallmarkref04_Ints.f k t164 (([1, 2] : List Int))).bind fun t170 => (some t170))) else (none)) else (some false))))) = some r := h
  clear h
  obtain ⟨y152, hy152⟩ : ∃ y_ : List (S34), y_ = (([(⟨([] : List Int), ([] : List (S84)), (⟨1, 0, 1, 2, ([] : List Int), ([] : List Int)⟩ : S32)⟩ : S34), (⟨([] : List Int), ([] : List (S84)), (⟨0, 0, 3, 0, ([] : List Int), ([] : List Int)⟩ : S32)⟩ : S34), (⟨([] : List Int), ([] : List (S84)), (⟨0, 0, 3, 0, ([] : List Int), ([] : List Int)⟩ : S32)⟩ : S34), (⟨([] : List Int), ([] : List (S84)), (⟨2, 0, 0, 0, ([] : List Int), ([] : List Int)⟩ : S32)⟩ : S34)] : List (S34))) := ⟨_, rfl⟩
  replace H : ((cfg_Order.f 0 y152).bind fun t156 => ((hallmarkref04_Ints.f k t156 (([0, 2, 1, 3] : List Int))).bind fun t162 => (if t162 = true then (if 0 < (y152.length : Int) then ((cfg_Next.f ((rd_T34 y152 0).f0) ((rd_T34 y152 0).f1) ((rd_T34 y152 0).f2.f0) ((rd_T34 y152 0).f2.f1) ((rd_T34 y152 0).f2.f2) ((rd_T34 y152 0).f2.f3) ((rd_T34 y152 0).f2.f4) ((rd_T34 y152 0).f2.f5)).bind fun t164 => ((hallmarkref04_Ints.f k t164 (([1, 2] : List Int))).bind fun t170 => (some t170))) else (none)) else (some false)))) = some r := by first | (rw [hy152]; with_reducible exact H) | (have H2_ := (Option.bind_some _ _).symm.trans H; rw [hy152]; with_reducible exact H2_) | (have H2_ := (Option.bind_some _ _).symm.trans H; with_reducible exact H2_) | with_reducible exact H | (rw [hy152]; exact H) | exact H
  have Ny152 := Aside0.mk hy152
  clear hy152
  replace H := Option.bind_eq_some_iff.mp H
  obtain ⟨t156, A10, H⟩ := H
  replace H : ((hallmarkref04_Ints.f k t156 (([0, 2, 1, 3] : List Int))).bind fun t162 => (if t162 = true then (if 0 < (y152.length : Int) then ((cfg_Next.f ((rd_T34 y152 0).f0) ((rd_T34 y152 0).f1) ((rd_T34 y152 0).f2.f0) ((rd_T34 y152 0).f2.f1) ((rd_T34 y152 0).f2.f2) ((rd_T34 y152 0).f2.f3) ((rd_T34 y152 0).f2.f4) ((rd_T34 y152 0).f2.f5)).bind fun t164 => ((hallmarkref04_Ints.f k t164 (([1, 2] : List Int))).bind fun t170 => (some t170))) else (none)) else (some false))) = some r := H
  have A1 := Aside0.mk A10
  clear A10
  obtain ⟨y159, hy159⟩ : ∃ y_ : List Int, y_ = (([0, 2, 1, 3] : List Int)) := ⟨_, rfl⟩
  replace H : ((hallmarkref04_Ints.f k t156 y159).bind fun t162 => (if t162 = true then (if 0 < (y152.length : Int) then ((cfg_Next.f ((rd_T34 y152 0).f0) ((rd_T34 y152 0).f1) ((rd_T34 y152 0).f2.f0) ((rd_T34 y152 0).f2.f1) ((rd_T34 y152 0).f2.f2) ((rd_T34 y152 0).f2.f3) ((rd_T34 y152 0).f2.f4) ((rd_T34 y152 0).f2.f5)).bind fun t164 => ((hallmarkref04_Ints.f k t164 (([1, 2] : List Int))).bind fun t170 => (some t170))) else (none)) else (some false))) = some r := by first | (rw [hy159]; with_reducible exact H) | (have H2_ := (Option.bind_some _ _).symm.trans H; rw [hy159]; with_reducible exact H2_) | (have H2_ := (Option.bind_some _ _).symm.trans H; with_reducible exact H2_) | with_reducible exact H | (rw [hy159]; exact H) | exact H
  have Ny159 := Aside0.mk hy159
  clear hy159
  replace H := Option.bind_eq_some_iff.mp H
  obtain ⟨t162, A20, H⟩ := H
  replace H : (if t162 = true then (if 0 < (y152.length : Int) then ((cfg_Next.f ((rd_T34 y152 0).f0) ((rd_T34 y152 0).f1) ((rd_T34 y152 0).f2.f0) ((rd_T34 y152 0).f2.f1) ((rd_T34 y152 0).f2.f2) ((rd_T34 y152 0).f2.f3) ((rd_T34 y152 0).f2.f4) ((rd_T34 y152 0).f2.f5)).bind fun t164 => ((hallmarkref04_Ints.f k t164 (([1, 2] : List Int))).bind fun t170 => (some t170))) else (none)) else (some false)) = some r := H
  have A2 := Aside0.mk A20
  clear A20
  by_cases c3 : t162 = true
  · subst c3
    have H1 : (if 0 < (y152.length : Int) then ((cfg_Next.f ((rd_T34 y152 0).f0) ((rd_T34 y152 0).f1) ((rd_T34 y152 0).f2.f0) ((rd_T34 y152 0).f2.f1) ((rd_T34 y152 0).f2.f2) ((rd_T34 y152 0).f2.f3) ((rd_T34 y152 0).f2.f4) ((rd_T34 y152 0).f2.f5)).bind fun t164 => ((hallmarkref04_Ints.f k t164 (([1, 2] : List Int))).bind fun t170 => (some t170))) else (none)) = some r := by rw [if_pos rfl] at H; exact H
    clear H
    have H := H1
    clear H1
    by_cases c4 : 0 < (y152.length : Int)
    · rw [if_pos c4] at H
      have c4b0 : decide (0 < (y152.length : Int)) = true := decide_eq_true c4
      have c4b1 : decide (0 < y152.length) = true := decide_eq_true (by omega)
      clear c4
      replace H := Option.bind_eq_some_iff.mp H
      obtain ⟨t164, A50, H⟩ := H
      replace H : ((hallmarkref04_Ints.f k t164 (([1, 2] : List Int))).bind fun t170 => (some t170)) = some r := H
      have A5 := Aside0.mk A50
      clear A50
      obtain ⟨y167, hy167⟩ : ∃ y_ : List Int, y_ = (([1, 2] : List Int)) := ⟨_, rfl⟩
      replace H : ((hallmarkref04_Ints.f k t164 y167).bind fun t170 => (some t170)) = some r := by first | (rw [hy167]; with_reducible exact H) | (have H2_ := (Option.bind_some _ _).symm.trans H; rw [hy167]; with_reducible exact H2_) | (have H2_ := (Option.bind_some _ _).symm.trans H; with_reducible exact H2_) | with_reducible exact H | (rw [hy167]; exact H) | exact H
      have Ny167 := Aside0.mk hy167
      clear hy167
      replace H := Option.bind_eq_some_iff.mp H
      obtain ⟨t170, A60, H⟩ := H
      replace H : (some t170) = some r := H
      have A6 := Aside0.mk A60
      clear A60
      obtain rfl := Option.some.inj H
      go_enter Try.func12, Try.ntmps12
      go_wp2_with (first | ((with_reducible refine gate_dst (N := 10) rfl ?_); (try (refine gate_guard (by rfl) ?_; dsimp only)); refine Kd.R_lit k34 _ 34 ?hg (N := 10) ?hd (xs := ([(⟨([] : List Int), ([] : List (S84)), (⟨1, 0, 1, 2, ([] : List Int), ([] : List Int)⟩ : S32)⟩ : S34), (⟨([] : List Int), ([] : List (S84)), (⟨0, 0, 3, 0, ([] : List Int), ([] : List Int)⟩ : S32)⟩ : S34), (⟨([] : List Int), ([] : List (S84)), (⟨0, 0, 3, 0, ([] : List Int), ([] : List Int)⟩ : S32)⟩ : S34), (⟨([] : List Int), ([] : List (S84)), (⟨2, 0, 0, 0, ([] : List Int), ([] : List Int)⟩ : S32)⟩ : S34)] : List (S34))) (inner := [.slice none 0 0, .slice none 0 0, .int .i64 1, .int .i64 0, .int .i64 1, .int .i64 2, .slice none 0 0, .slice none 0 0, .slice none 0 0, .slice none 0 0, .int .i64 0, .int .i64 0, .int .i64 3, .int .i64 0, .slice none 0 0, .slice none 0 0, .slice none 0 0, .slice none 0 0, .int .i64 0, .int .i64 0, .int .i64 3, .int .i64 0, .slice none 0 0, .slice none 0 0, .slice none 0 0, .slice none 0 0, .int .i64 2, .int .i64 0, .int .i64 0, .int .i64 0, .slice none 0 0, .slice none 0 0]) (ok := fun _ => True) (okp := fun _ => True) ?hr ?hp (fun _ hk => hk) trivial (Below.refl _ _) (Nat.le_refl _) (by simp) ?_; (case hd => rfl); (case hg => rfl); (case hr => first | (go_simp; done) | (go_simp; rfl)); (case hp => exact (Reps.c8 (show Kd.M k34 _ _ _ (⟨([] : List Int), ([] : List (S84)), (⟨1, 0, 1, 2, ([] : List Int), ([] : List Int)⟩ : S32)⟩ : S34) [.slice none 0 0, .slice none 0 0, .int .i64 1, .int .i64 0, .int .i64 1, .int .i64 2, .slice none 0 0, .slice none 0 0] from (k34_mkM _ _ _ (⟨([] : List Int), ([] : List (S84)), (⟨1, 0, 1, 2, ([] : List Int), ([] : List Int)⟩ : S32)⟩ : S34) (Kd.R_nil _ _ _ _ _) (Kd.R_nil _ _ _ _ _) (Kd.R_nil _ _ _ _ _) (Kd.R_nil _ _ _ _ _))) (Reps.c8 (show Kd.M k34 _ _ _ (⟨([] : List Int), ([] : List (S84)), (⟨0, 0, 3, 0, ([] : List Int), ([] : List Int)⟩ : S32)⟩ : S34) [.slice none 0 0, .slice none 0 0, .int .i64 0, .int .i64 0, .int .i64 3, .int .i64 0, .slice none 0 0, .slice none 0 0] from (k34_mkM _ _ _ (⟨([] : List Int), ([] : List (S84)), (⟨0, 0, 3, 0, ([] : List Int), ([] : List Int)⟩ : S32)⟩ : S34) (Kd.R_nil _ _ _ _ _) (Kd.R_nil _ _ _ _ _) (Kd.R_nil _ _ _ _ _) (Kd.R_nil _ _ _ _ _))) (Reps.c8 (show Kd.M k34 _ _ _ (⟨([] : List Int), ([] : List (S84)), (⟨0, 0, 3, 0, ([] : List Int), ([] : List Int)⟩ : S32)⟩ : S34) [.slice none 0 0, .slice none 0 0, .int .i64 0, .int .i64 0, .int .i64 3, .int .i64 0, .slice none 0 0, .slice none 0 0] from (k34_mkM _ _ _ (⟨([] : List Int), ([] : List (S84)), (⟨0, 0, 3, 0, ([] : List Int), ([] : List Int)⟩ : S32)⟩ : S34) (Kd.R_nil _ _ _ _ _) (Kd.R_nil _ _ _ _ _) (Kd.R_nil _ _ _ _ _) (Kd.R_nil _ _ _ _ _))) (Reps.c8 (show Kd.M k34 _ _ _ (⟨([] : List Int), ([] : List (S84)), (⟨2, 0, 0, 0, ([] : List Int), ([] : List Int)⟩ : S32)⟩ : S34) [.slice none 0 0, .slice none 0 0, .int .i64 2, .int .i64 0, .int .i64 0, .int .i64 0, .slice none 0 0, .slice none 0 0] from (k34_mkM _ _ _ (⟨([] : List Int), ([] : List (S84)), (⟨2, 0, 0, 0, ([] : List Int), ([] : List Int)⟩ : S32)⟩ : S34) (Kd.R_nil _ _ _ _ _) (Kd.R_nil _ _ _ _ _) (Kd.R_nil _ _ _ _ _) (Kd.R_nil _ _ _ _ _))) (Reps.none _ _)))))); intro v153 w7 ho8 hb hg_ hnew_; clear hg_ hnew_; (first | rw [← Ny152.out] at ho8 | (simp only [Int.reduceToNat] at ho8; rw [← Ny152.out] at ho8)); have n0_ := Aside0.mk (Kd.R_lower ho8 (below_size (by repeat (first | (with_reducible first | exact HB.out | apply below_alloc | apply pw_below_drewN | apply below_drew1) | exact HB.out)))); have n1_ := Aside0.mk (below_step (by repeat (first | (with_reducible first | exact HB.out | apply below_alloc | apply pw_below_drewN | apply below_drew1) | exact HB.out)) hb); clear HB; have HO154 := n0_; have HB := n1_; clear n0_ n1_; clear hb ho8; obtain ⟨Ao9, co9, eo9⟩ := Kd.R_slice HO154.out; subst eo9) | ((with_reducible refine gate_dst (N := 1) rfl ?_); (try (refine gate_guard (by rfl) ?_; dsimp only)); refine box_event ?hg (N := 1) ?hd (cs := #[.int .i64 0, .slice none 0 0]) (t := 24) ?hr ?_; (case hd => rfl); (case hg => rfl); (case hr => first | (go_simp; done) | (go_simp; rfl)); intro gb155 hg w10 hbox hb; have n0_ := Aside0.mk (Kd.R_below (by (with_reducible repeat (first | apply Kd.R_alloc | apply Kd.R_drewN | apply Kd.R_drew)); exact HO154.out) hb); have n1_ := Aside0.mk (below_step (by repeat (first | (with_reducible first | exact HB.out | apply below_alloc | apply pw_below_drewN | apply below_drew1) | exact HB.out)) hb); have n2_ := Aside0.mk (hbox); have n3_ := Aside0.mk ((by rw [hg]; exact (below_size (by repeat (first | (with_reducible first | exact HB.out | apply below_alloc | apply pw_below_drewN | apply below_drew1) | exact HB.out))) : w.heap.size ≤ gb155)); have n4_ := Aside0.mk ((by rw [hg]; exact (below_size (by repeat (first | (with_reducible first | exact HB.out | apply below_alloc | apply pw_below_drewN | apply below_drew1) | exact HB.out))) : w.heap.size ≤ gb155)); clear HO154; clear HB; have HO154 := n0_; have HB := n1_; have BK155 := n2_; have GW155 := n3_; have GE155 := n4_; clear n0_ n1_ n2_ n3_ n4_; clear hb hbox hg; have hcz11_0 : w10.cell? ⟨gb155, 0, none⟩ = some (.int .i64 0) := (blk_cell BK155.out 0).trans rfl; have hcz11_1 : w10.cell? ⟨gb155, 1, none⟩ = some (.slice none 0 0) := (blk_cell BK155.out 1).trans rfl; have hfz11_0 := blk_frozen BK155.out 0; have hfz11_1 := blk_frozen BK155.out 1) | ((with_reducible refine gate_callee (f := 9) rfl ?_); refine goesL_ (some 13) rfl rfl Try.func9 (by kernel_rfl) rfl #[.agg #[.int .i64 0, .slice Ao9 y152.length co9]] rfl (by (try simp only [List.map_toArray, List.map_cons, List.map_nil]); first | done | rfl | (simp only [List.length_drop, List.length_take]; rfl)) ?_; (with_reducible refine (cfg_Order.calls 0 _ _ y152 t156 _ ?side1 ?side2 A1.out).mono ?_); (case side1 => refine (Kd.R_reads' (e := 34) (base := w.heap.size) (ok := fun k_ => True) (n := y152.length) (c := co9) ?_).2.2; exact (by (with_reducible repeat (first | apply Kd.R_alloc | apply Kd.R_drewN | apply Kd.R_drew)); exact (Kd.R_mono (Kd.R_far (p := ⟨gb155, 1, none⟩) (Kd.R_far (p := ⟨gb155, 0, none⟩) (Kd.R_types HO154.out BK155.out (by decide)) (fun _ hk => hk.2) (.int .i64 0)) (fun _ hk => hk.2) (.slice Ao9 y152.length co9)) (fun _ h_ => h_.1)))); (case side2 => exact (Kd.R_reads' HO154.out).2.1); rintro e w12 ⟨v157, rfl, ho0, hb⟩; refine ⟨_, rfl, ?_⟩; have n0_ := Aside0.mk (Kd.R_elder' (by (with_reducible repeat (first | apply Kd.R_alloc | apply Kd.R_drewN | apply Kd.R_drew)); exact (Kd.R_mono (Kd.R_far (p := ⟨gb155, 1, none⟩) (Kd.R_far (p := ⟨gb155, 0, none⟩) (Kd.R_types HO154.out BK155.out (by decide)) (fun _ hk => hk.2) (.int .i64 0)) (fun _ hk => hk.2) (.slice Ao9 y152.length co9)) (fun _ h_ => h_.1))) (Kd.R_base ho0) hb); have n1_ := Aside0.mk (Kd.R_lower ho0 (below_size (by repeat (first | (with_reducible first | exact HB.out | apply below_alloc | apply pw_below_drewN | apply below_drew1 | refine below_set ?_ GE155.out) | exact HB.out)))); have n2_ := Aside0.mk (blk_below (g := gb155) (o := .cells #[.int .i64 0, .slice Ao9 y152.length co9] 24 (0, 0)) (by (with_reducible repeat (first | refine blk_drewN ?_ _ | refine blk_drew ?_ | refine blk_alloc ?_ _)); refine blk_put (cs := #[.int .i64 0, .slice none 0 0]) ?_ 1 _ rfl; (with_reducible repeat (first | refine blk_drewN ?_ _ | refine blk_drew ?_ | refine blk_alloc ?_ _)); refine blk_put (cs := #[.int .i64 0, .slice none 0 0]) ?_ 0 _ rfl; (with_reducible repeat (first | refine blk_drewN ?_ _ | refine blk_drew ?_ | refine blk_alloc ?_ _)); exact BK155.out) hb); have n3_ := Aside0.mk (below_step (by repeat (first | (with_reducible first | exact HB.out | apply below_alloc | apply pw_below_drewN | apply below_drew1 | refine below_set ?_ GE155.out) | exact HB.out)) hb); clear HO154; clear BK155; clear HB; have HO154 := n0_; have HO158 := n1_; have BK155 := n2_; have HB := n3_; clear n0_ n1_ n2_ n3_; (try clear hb); (try clear hb2); (try clear hk); (try clear hi); (try clear ho0)) | ((with_reducible refine gate_dst (N := 14) rfl ?_); (try (refine gate_guard (by rfl) ?_; dsimp only)); refine Kd.R_lit (Kd.int .i64) _ 3 ?hg (N := 14) ?hd (xs := ([0, 2, 1, 3] : List Int)) (inner := [.int .i64 0, .int .i64 2, .int .i64 1, .int .i64 3]) (ok := fun _ => True) (okp := fun _ => True) ?hr ?hp (fun _ hk => hk) trivial (Below.refl _ _) (Nat.le_refl _) (by simp) ?_; (case hd => rfl); (case hg => rfl); (case hr => first | (go_simp; done) | (go_simp; rfl)); (case hp => exact (Reps.one (show Kd.M (Kd.int .i64) _ _ _ 0 [.int .i64 0] from rfl) (Reps.one (show Kd.M (Kd.int .i64) _ _ _ 2 [.int .i64 2] from rfl) (Reps.one (show Kd.M (Kd.int .i64) _ _ _ 1 [.int .i64 1] from rfl) (Reps.one (show Kd.M (Kd.int .i64) _ _ _ 3 [.int .i64 3] from rfl) (Reps.none _ _)))))); intro v160 w13 ho14 hb hg_ hnew_; clear hg_ hnew_; (first | rw [← Ny159.out] at ho14 | (simp only [Int.reduceToNat] at ho14; rw [← Ny159.out] at ho14)); have n0_ := Aside0.mk (Kd.R_elder' (by (with_reducible repeat (first | apply Kd.R_alloc | apply Kd.R_drewN | apply Kd.R_drew)); exact HO154.out) (Kd.R_base ho14) hb); have n1_ := Aside0.mk (Kd.R_elder' (by (with_reducible repeat (first | apply Kd.R_alloc | apply Kd.R_drewN | apply Kd.R_drew)); exact HO158.out) (Kd.R_base ho14) hb); have n2_ := Aside0.mk (Kd.R_lower (Kd.R_new' ho14 (Kd.R_lt (by (with_reducible repeat (first | apply Kd.R_alloc | apply Kd.R_drewN | apply Kd.R_drew)); exact HO158.out))) (below_size (by repeat (first | (with_reducible first | exact HB.out | apply below_alloc | apply pw_below_drewN | apply below_drew1 | refine below_set ?_ GE155.out) | exact HB.out)))); have n3_ := Aside0.mk (blk_below (g := gb155) (o := .cells #[.int .i64 0, .slice Ao9 y152.length co9] 24 (0, 0)) (by (with_reducible repeat (first | refine blk_drewN ?_ _ | refine blk_drew ?_ | refine blk_alloc ?_ _)); exact BK155.out) hb); have n4_ := Aside0.mk (below_step (by repeat (first | (with_reducible first | exact HB.out | apply below_alloc | apply pw_below_drewN | apply below_drew1 | refine below_set ?_ GE155.out) | exact HB.out)) hb); clear HO154; clear HO158; clear BK155; clear HB; have HO154 := n0_; have HO158 := n1_; have HO161 := n2_; have BK155 := n3_; have HB := n4_; clear n0_ n1_ n2_ n3_ n4_; clear hb ho14; obtain ⟨Ao15, co15, eo15⟩ := Kd.R_slice HO158.out; subst eo15; obtain ⟨Ao16, co16, eo16⟩ := Kd.R_slice HO161.out; subst eo16) | ((with_reducible refine gate_callee (f := 14) rfl ?_); refine goesL_ (some 15) rfl rfl Try.func14 (by kernel_rfl) rfl #[.slice Ao15 t156.length co15, .slice Ao16 y159.length co16] rfl (by (try simp only [List.map_toArray, List.map_cons, List.map_nil]); first | done | rfl | (simp only [List.length_drop, List.length_take]; rfl)) ?_; (with_reducible refine (hallmarkref04_Ints.calls k _ _ t156 _ _ y159 true _ ?side1 ?side2 ?side3 ?side4 A2.out).mono ?_); (case side1 => repeat (first | exact (Kd.R_reads' HO158.out).2.2 | (with_reducible refine Kd.C_alloc ?_ _) | (with_reducible refine Kd.C_drewN ?_ _) | (with_reducible refine Kd.C_drew ?_))); (case side2 => exact (Kd.R_reads' HO158.out).2.1); (case side3 => repeat (first | exact (Kd.R_reads' HO161.out).2.2 | (with_reducible refine Kd.C_alloc ?_ _) | (with_reducible refine Kd.C_drewN ?_ _) | (with_reducible refine Kd.C_drew ?_))); (case side4 => exact (Kd.R_reads' HO161.out).2.1); rintro e w' ⟨rfl, ⟨nd, rfl⟩⟩; refine ⟨_, rfl, ?_⟩; have hcz17_0 : w13.cell? ⟨gb155, 0, none⟩ = some (.int .i64 0) := (blk_cell BK155.out 0).trans rfl; have hcz17_1 : w13.cell? ⟨gb155, 1, none⟩ = some (.slice Ao9 y152.length co9) := (blk_cell BK155.out 1).trans rfl; have hfz17_0 := blk_frozen BK155.out 0; have hfz17_1 := blk_frozen BK155.out 1; have p163 : 0 ≤ (0 : Int) := (by omega); have q163 : 0 < (y152.length : Int) := of_decide_eq_true (by first | (with_reducible assumption) | assumption); obtain ⟨ad163, A163_0, c163_0, A163_1, c163_1, A163_6, c163_6, A163_7, c163_7, e163, hx163_0, hx163_1, hx163_2, hx163_3, hx163_4, hx163_5, hx163_6, hx163_7, hl163_0, hi163_0, hl163_1, hi163_1, hl163_6, hi163_6, hl163_7, hi163_7⟩ := at_T34 (Kd.R_reads' HO154.out).2.2 0 p163 q163; cases e163; obtain ⟨ce163, hce163, hMe163, hcc163⟩ := Kd.R_get HO154.out z34 0 p163 (by first | exact q163 | exact of_decide_eq_true (by first | (with_reducible assumption) | assumption) | (have e_ := (Kd.R_reads' HO154.out).1; omega)); obtain ⟨ve163_0, ve163_1, ve163_6, ve163_7, rfl, ge163_0, ge163_1, ge163_6, ge163_7⟩ := k34_openM hMe163; have hv163_0 := hcc163 0 _ rfl; rw [Nat.add_zero] at hv163_0; replace hv163_0 := Option.some.inj (hv163_0.symm.trans hx163_0); rw [hv163_0] at ge163_0; have HL163_0 := Aside0.mk (show Kd.R (Kd.int .i64) 3 _ _ _ _ ((rd_T34 y152 0).f0) from ge163_0); clear hv163_0 ge163_0; have hv163_1 := hcc163 1 _ rfl; rw [add_field _ _ 1 (by omega)] at hv163_1; replace hv163_1 := Option.some.inj (hv163_1.symm.trans hx163_1); rw [hv163_1] at ge163_1; have HL163_1 := Aside0.mk (show Kd.R k84 84 _ _ _ _ ((rd_T34 y152 0).f1) from ge163_1); clear hv163_1 ge163_1; have hv163_6 := hcc163 6 _ rfl; rw [add_field _ _ 6 (by omega)] at hv163_6; replace hv163_6 := Option.some.inj (hv163_6.symm.trans hx163_6); rw [hv163_6] at ge163_6; have HL163_6 := Aside0.mk (show Kd.R (Kd.int .i64) 3 _ _ _ _ ((rd_T34 y152 0).f2.f4) from ge163_6); clear hv163_6 ge163_6; have hv163_7 := hcc163 7 _ rfl; rw [add_field _ _ 7 (by omega)] at hv163_7; replace hv163_7 := Option.some.inj (hv163_7.symm.trans hx163_7); rw [hv163_7] at ge163_7; have HL163_7 := Aside0.mk (show Kd.R (Kd.int .i64) 3 _ _ _ _ ((rd_T34 y152 0).f2.f5) from ge163_7); clear hv163_7 ge163_7; clear hcc163 hce163; have qi163 : (0 < y152.length) = True := eq_true (by omega); (try rw [show ((0 : Int)).toNat = 0 from rfl] at hx163_0); (try rw [show 0 * 8 = 0 from rfl] at hx163_0); (try rw [Addr.add_zero'] at hx163_0); (try rw [show ((0 : Int)).toNat = 0 from rfl] at hx163_1); (try rw [show 0 * 8 = 0 from rfl] at hx163_1); (try rw [Addr.add_zero'] at hx163_1); (try rw [show ((0 : Int)).toNat = 0 from rfl] at hx163_2); (try rw [show 0 * 8 = 0 from rfl] at hx163_2); (try rw [Addr.add_zero'] at hx163_2); (try rw [show ((0 : Int)).toNat = 0 from rfl] at hx163_3); (try rw [show 0 * 8 = 0 from rfl] at hx163_3); (try rw [Addr.add_zero'] at hx163_3); (try rw [show ((0 : Int)).toNat = 0 from rfl] at hx163_4); (try rw [show 0 * 8 = 0 from rfl] at hx163_4); (try rw [Addr.add_zero'] at hx163_4); (try rw [show ((0 : Int)).toNat = 0 from rfl] at hx163_5); (try rw [show 0 * 8 = 0 from rfl] at hx163_5); (try rw [Addr.add_zero'] at hx163_5); (try rw [show ((0 : Int)).toNat = 0 from rfl] at hx163_6); (try rw [show 0 * 8 = 0 from rfl] at hx163_6); (try rw [Addr.add_zero'] at hx163_6); (try rw [show ((0 : Int)).toNat = 0 from rfl] at hx163_7); (try rw [show 0 * 8 = 0 from rfl] at hx163_7); (try rw [Addr.add_zero'] at hx163_7); have HR163_0 := Aside0.mk hi163_0; have HC163_0 := Aside0.mk hl163_0; clear hi163_0 hl163_0; have HR163_1 := Aside0.mk hi163_1; have HC163_1 := Aside0.mk hl163_1; clear hi163_1 hl163_1; have HR163_6 := Aside0.mk hi163_6; have HC163_6 := Aside0.mk hl163_6; clear hi163_6 hl163_6; have HR163_7 := Aside0.mk hi163_7; have HC163_7 := Aside0.mk hl163_7; clear hi163_7 hl163_7; replace p163 := eq_true p163; replace q163 := eq_true q163) | (go_at_call 21; (with_reducible refine (cfg_Next.calls _ _ ((rd_T34 y152 0).f0) _ _ ((rd_T34 y152 0).f1) ((rd_T34 y152 0).f2.f0) ((rd_T34 y152 0).f2.f1) ((rd_T34 y152 0).f2.f2) ((rd_T34 y152 0).f2.f3) _ _ ((rd_T34 y152 0).f2.f4) _ _ ((rd_T34 y152 0).f2.f5) t164 _ ?side1 ?side2 ?side3 ?side4 ?side5 ?side6 ?side7 ?side8 A5.out).mono ?_); (case side1 => repeat (first | exact (by repeat (first | (with_reducible exact HR163_0.out) | (with_reducible refine Kd.C_alloc ?_ _) | (with_reducible refine Kd.C_drewN ?_ _) | (with_reducible refine Kd.C_drew ?_) | exact HR163_0.out)) | (with_reducible refine Kd.C_alloc ?_ _) | (with_reducible refine Kd.C_drewN ?_ _) | (with_reducible refine Kd.C_drew ?_))); (case side2 => exact HC163_0.out); (case side3 => repeat (first | exact (by repeat (first | (with_reducible exact HR163_1.out) | (with_reducible refine Kd.C_alloc ?_ _) | (with_reducible refine Kd.C_drewN ?_ _) | (with_reducible refine Kd.C_drew ?_) | exact HR163_1.out)) | (with_reducible refine Kd.C_alloc ?_ _) | (with_reducible refine Kd.C_drewN ?_ _) | (with_reducible refine Kd.C_drew ?_))); (case side4 => exact HC163_1.out); (case side5 => repeat (first | exact (by repeat (first | (with_reducible exact HR163_6.out) | (with_reducible refine Kd.C_alloc ?_ _) | (with_reducible refine Kd.C_drewN ?_ _) | (with_reducible refine Kd.C_drew ?_) | exact HR163_6.out)) | (with_reducible refine Kd.C_alloc ?_ _) | (with_reducible refine Kd.C_drewN ?_ _) | (with_reducible refine Kd.C_drew ?_))); (case side6 => exact HC163_6.out); (case side7 => repeat (first | exact (by repeat (first | (with_reducible exact HR163_7.out) | (with_reducible refine Kd.C_alloc ?_ _) | (with_reducible refine Kd.C_drewN ?_ _) | (with_reducible refine Kd.C_drew ?_) | exact HR163_7.out)) | (with_reducible refine Kd.C_alloc ?_ _) | (with_reducible refine Kd.C_drewN ?_ _) | (with_reducible refine Kd.C_drew ?_))); (case side8 => exact HC163_7.out); rintro e w18 ⟨v165, rfl, ho0, hb⟩; have n0_ := Aside0.mk (Kd.R_elder' (by (with_reducible repeat (first | apply Kd.R_alloc | apply Kd.R_drewN | apply Kd.R_drew)); exact HO154.out) (Kd.R_base ho0) hb); have n1_ := Aside0.mk (Kd.R_elder' (by (with_reducible repeat (first | apply Kd.R_alloc | apply Kd.R_drewN | apply Kd.R_drew)); exact HO158.out) (Kd.R_base ho0) hb); have n2_ := Aside0.mk (Kd.R_elder' (by (with_reducible repeat (first | apply Kd.R_alloc | apply Kd.R_drewN | apply Kd.R_drew)); exact HO161.out) (Kd.R_base ho0) hb); have n3_ := Aside0.mk (Kd.R_elder' (by (with_reducible repeat (first | apply Kd.R_alloc | apply Kd.R_drewN | apply Kd.R_drew)); exact HL163_0.out) (Kd.R_base ho0) hb); have n4_ := Aside0.mk (Kd.R_elder' (by (with_reducible repeat (first | apply Kd.R_alloc | apply Kd.R_drewN | apply Kd.R_drew)); exact HL163_1.out) (Kd.R_base ho0) hb); have n5_ := Aside0.mk (Kd.R_elder' (by (with_reducible repeat (first | apply Kd.R_alloc | apply Kd.R_drewN | apply Kd.R_drew)); exact HL163_6.out) (Kd.R_base ho0) hb); have n6_ := Aside0.mk (Kd.R_elder' (by (with_reducible repeat (first | apply Kd.R_alloc | apply Kd.R_drewN | apply Kd.R_drew)); exact HL163_7.out) (Kd.R_base ho0) hb); have n7_ := Aside0.mk (Kd.R_lower (Kd.R_new' (Kd.R_new' (Kd.R_new' (Kd.R_new' (Kd.R_new' ho0 (Kd.R_lt (by (with_reducible repeat (first | apply Kd.R_alloc | apply Kd.R_drewN | apply Kd.R_drew)); exact HO158.out))) (Kd.R_lt (by (with_reducible repeat (first | apply Kd.R_alloc | apply Kd.R_drewN | apply Kd.R_drew)); exact HO161.out))) (Kd.R_lt (by (with_reducible repeat (first | apply Kd.R_alloc | apply Kd.R_drewN | apply Kd.R_drew)); exact HL163_0.out))) (Kd.R_lt (by (with_reducible repeat (first | apply Kd.R_alloc | apply Kd.R_drewN | apply Kd.R_drew)); exact HL163_6.out))) (Kd.R_lt (by (with_reducible repeat (first | apply Kd.R_alloc | apply Kd.R_drewN | apply Kd.R_drew)); exact HL163_7.out))) (below_size (by repeat (first | (with_reducible first | exact HB.out | apply below_alloc | apply pw_below_drewN | apply below_drew1 | refine below_set ?_ GE155.out) | exact HB.out)))); have n8_ := Aside0.mk (blk_below (g := gb155) (o := .cells #[.int .i64 0, .slice (some ad163) y152.length co9] 24 (0, 0)) (by (with_reducible repeat (first | refine blk_drewN ?_ _ | refine blk_drew ?_ | refine blk_alloc ?_ _)); exact BK155.out) hb); have n9_ := Aside0.mk (Kd.C_below (by repeat (first | (with_reducible exact HR163_0.out) | (with_reducible refine Kd.C_alloc ?_ _) | (with_reducible refine Kd.C_drewN ?_ _) | (with_reducible refine Kd.C_drew ?_) | exact HR163_0.out)) hb); have n10_ := Aside0.mk (Kd.C_below (by repeat (first | (with_reducible exact HR163_1.out) | (with_reducible refine Kd.C_alloc ?_ _) | (with_reducible refine Kd.C_drewN ?_ _) | (with_reducible refine Kd.C_drew ?_) | exact HR163_1.out)) hb); have n11_ := Aside0.mk (Kd.C_below (by repeat (first | (with_reducible exact HR163_6.out) | (with_reducible refine Kd.C_alloc ?_ _) | (with_reducible refine Kd.C_drewN ?_ _) | (with_reducible refine Kd.C_drew ?_) | exact HR163_6.out)) hb); have n12_ := Aside0.mk (Kd.C_below (by repeat (first | (with_reducible exact HR163_7.out) | (with_reducible refine Kd.C_alloc ?_ _) | (with_reducible refine Kd.C_drewN ?_ _) | (with_reducible refine Kd.C_drew ?_) | exact HR163_7.out)) hb); have n13_ := Aside0.mk (below_step (by repeat (first | (with_reducible first | exact HB.out | apply below_alloc | apply pw_below_drewN | apply below_drew1 | refine below_set ?_ GE155.out) | exact HB.out)) hb); clear HO154; clear HO158; clear HO161; clear HL163_0; clear HL163_1; clear HL163_6; clear HL163_7; clear BK155; clear HR163_0; clear HR163_1; clear HR163_6; clear HR163_7; clear HB; have HO154 := n0_; have HO158 := n1_; have HO161 := n2_; have HL163_0 := n3_; have HL163_1 := n4_; have HL163_6 := n5_; have HL163_7 := n6_; have HO166 := n7_; have BK155 := n8_; have HR163_0 := n9_; have HR163_1 := n10_; have HR163_6 := n11_; have HR163_7 := n12_; have HB := n13_; clear n0_ n1_ n2_ n3_ n4_ n5_ n6_ n7_ n8_ n9_ n10_ n11_ n12_ n13_; (try clear hb); (try clear hb2); (try clear hk); (try clear hi); (try clear ho0)) | ((with_reducible refine gate_dst (N := 22) rfl ?_); (try (refine gate_guard (by rfl) ?_; dsimp only)); refine Kd.R_lit (Kd.int .i64) _ 3 ?hg (N := 22) ?hd (xs := ([1, 2] : List Int)) (inner := [.int .i64 1, .int .i64 2]) (ok := fun _ => True) (okp := fun _ => True) ?hr ?hp (fun _ hk => hk) trivial (Below.refl _ _) (Nat.le_refl _) (by simp) ?_; (case hd => rfl); (case hg => rfl); (case hr => first | (go_simp; done) | (go_simp; rfl)); (case hp => exact (Reps.one (show Kd.M (Kd.int .i64) _ _ _ 1 [.int .i64 1] from rfl) (Reps.one (show Kd.M (Kd.int .i64) _ _ _ 2 [.int .i64 2] from rfl) (Reps.none _ _)))); intro v168 w19 ho20 hb hg_ hnew_; clear hg_ hnew_; (first | rw [← Ny167.out] at ho20 | (simp only [Int.reduceToNat] at ho20; rw [← Ny167.out] at ho20)); have n0_ := Aside0.mk (Kd.R_elder' (by (with_reducible repeat (first | apply Kd.R_alloc | apply Kd.R_drewN | apply Kd.R_drew)); exact HO154.out) (Kd.R_base ho20) hb); have n1_ := Aside0.mk (Kd.R_elder' (by (with_reducible repeat (first | apply Kd.R_alloc | apply Kd.R_drewN | apply Kd.R_drew)); exact HO158.out) (Kd.R_base ho20) hb); have n2_ := Aside0.mk (Kd.R_elder' (by (with_reducible repeat (first | apply Kd.R_alloc | apply Kd.R_drewN | apply Kd.R_drew)); exact HO161.out) (Kd.R_base ho20) hb); have n3_ := Aside0.mk (Kd.R_elder' (by (with_reducible repeat (first | apply Kd.R_alloc | apply Kd.R_drewN | apply Kd.R_drew)); exact HL163_0.out) (Kd.R_base ho20) hb); have n4_ := Aside0.mk (Kd.R_elder' (by (with_reducible repeat (first | apply Kd.R_alloc | apply Kd.R_drewN | apply Kd.R_drew)); exact HL163_1.out) (Kd.R_base ho20) hb); have n5_ := Aside0.mk (Kd.R_elder' (by (with_reducible repeat (first | apply Kd.R_alloc | apply Kd.R_drewN | apply Kd.R_drew)); exact HL163_6.out) (Kd.R_base ho20) hb); have n6_ := Aside0.mk (Kd.R_elder' (by (with_reducible repeat (first | apply Kd.R_alloc | apply Kd.R_drewN | apply Kd.R_drew)); exact HL163_7.out) (Kd.R_base ho20) hb); have n7_ := Aside0.mk (Kd.R_elder' (by (with_reducible repeat (first | apply Kd.R_alloc | apply Kd.R_drewN | apply Kd.R_drew)); exact HO166.out) (Kd.R_base ho20) hb); have n8_ := Aside0.mk (Kd.R_lower (Kd.R_new' (Kd.R_new' (Kd.R_new' (Kd.R_new' (Kd.R_new' (Kd.R_new' ho20 (Kd.R_lt (by (with_reducible repeat (first | apply Kd.R_alloc | apply Kd.R_drewN | apply Kd.R_drew)); exact HO158.out))) (Kd.R_lt (by (with_reducible repeat (first | apply Kd.R_alloc | apply Kd.R_drewN | apply Kd.R_drew)); exact HO161.out))) (Kd.R_lt (by (with_reducible repeat (first | apply Kd.R_alloc | apply Kd.R_drewN | apply Kd.R_drew)); exact HL163_0.out))) (Kd.R_lt (by (with_reducible repeat (first | apply Kd.R_alloc | apply Kd.R_drewN | apply Kd.R_drew)); exact HL163_6.out))) (Kd.R_lt (by (with_reducible repeat (first | apply Kd.R_alloc | apply Kd.R_drewN | apply Kd.R_drew)); exact HL163_7.out))) (Kd.R_lt (by (with_reducible repeat (first | apply Kd.R_alloc | apply Kd.R_drewN | apply Kd.R_drew)); exact HO166.out))) (below_size (by repeat (first | (with_reducible first | exact HB.out | apply below_alloc | apply pw_below_drewN | apply below_drew1 | refine below_set ?_ GE155.out) | exact HB.out)))); have n9_ := Aside0.mk (blk_below (g := gb155) (o := .cells #[.int .i64 0, .slice (some ad163) y152.length co9] 24 (0, 0)) (by (with_reducible repeat (first | refine blk_drewN ?_ _ | refine blk_drew ?_ | refine blk_alloc ?_ _)); exact BK155.out) hb); have n10_ := Aside0.mk (Kd.C_below (by repeat (first | (with_reducible exact HR163_0.out) | (with_reducible refine Kd.C_alloc ?_ _) | (with_reducible refine Kd.C_drewN ?_ _) | (with_reducible refine Kd.C_drew ?_) | exact HR163_0.out)) hb); have n11_ := Aside0.mk (Kd.C_below (by repeat (first | (with_reducible exact HR163_1.out) | (with_reducible refine Kd.C_alloc ?_ _) | (with_reducible refine Kd.C_drewN ?_ _) | (with_reducible refine Kd.C_drew ?_) | exact HR163_1.out)) hb); have n12_ := Aside0.mk (Kd.C_below (by repeat (first | (with_reducible exact HR163_6.out) | (with_reducible refine Kd.C_alloc ?_ _) | (with_reducible refine Kd.C_drewN ?_ _) | (with_reducible refine Kd.C_drew ?_) | exact HR163_6.out)) hb); have n13_ := Aside0.mk (Kd.C_below (by repeat (first | (with_reducible exact HR163_7.out) | (with_reducible refine Kd.C_alloc ?_ _) | (with_reducible refine Kd.C_drewN ?_ _) | (with_reducible refine Kd.C_drew ?_) | exact HR163_7.out)) hb); have n14_ := Aside0.mk (below_step (by repeat (first | (with_reducible first | exact HB.out | apply below_alloc | apply pw_below_drewN | apply below_drew1 | refine below_set ?_ GE155.out) | exact HB.out)) hb); clear HO154; clear HO158; clear HO161; clear HL163_0; clear HL163_1; clear HL163_6; clear HL163_7; clear HO166; clear BK155; clear HR163_0; clear HR163_1; clear HR163_6; clear HR163_7; clear HB; have HO154 := n0_; have HO158 := n1_; have HO161 := n2_; have HL163_0 := n3_; have HL163_1 := n4_; have HL163_6 := n5_; have HL163_7 := n6_; have HO166 := n7_; have HO169 := n8_; have BK155 := n9_; have HR163_0 := n10_; have HR163_1 := n11_; have HR163_6 := n12_; have HR163_7 := n13_; have HB := n14_; clear n0_ n1_ n2_ n3_ n4_ n5_ n6_ n7_ n8_ n9_ n10_ n11_ n12_ n13_ n14_; clear hb ho20; obtain ⟨Ao21, co21, eo21⟩ := Kd.R_slice HO166.out; subst eo21; obtain ⟨Ao22, co22, eo22⟩ := Kd.R_slice HO169.out; subst eo22) | (go_at_call 14; (with_reducible refine (hallmarkref04_Ints.calls k _ _ t164 _ _ y167 t170 _ ?side1 ?side2 ?side3 ?side4 A6.out).mono ?_); (case side1 => repeat (first | exact (Kd.R_reads' HO166.out).2.2 | (with_reducible refine Kd.C_alloc ?_ _) | (with_reducible refine Kd.C_drewN ?_ _) | (with_reducible refine Kd.C_drew ?_))); (case side2 => exact (Kd.R_reads' HO166.out).2.1); (case side3 => repeat (first | exact (Kd.R_reads' HO169.out).2.2 | (with_reducible refine Kd.C_alloc ?_ _) | (with_reducible refine Kd.C_drewN ?_ _) | (with_reducible refine Kd.C_drew ?_))); (case side4 => exact (Kd.R_reads' HO169.out).2.1); rintro e w' ⟨rfl, ⟨nd, rfl⟩⟩))
      go_ret
      exact ⟨by first | rfl | (simp [errW_none, errW_some] <;> rfl) | (simp [*, errW_none, errW_some] <;> rfl), by repeat (first | (with_reducible first | exact HB.out | apply below_alloc | apply pw_below_drewN | apply below_drew1 | refine below_set ?_ GE155.out) | exact HB.out)⟩
    · rw [if_neg c4] at H
      exact absurd H (by simp)
  · replace c3 := Bool.eq_false_iff.mpr c3
    subst c3
    have H1 : (some false) = some r := by rw [if_neg (show ¬ (false = true) by decide)] at H; exact H
    clear H
    have H := H1
    clear H1
    obtain rfl := Option.some.inj H
    go_enter Try.func12, Try.ntmps12
    go_wp2_with (first | ((with_reducible refine gate_dst (N := 10) rfl ?_); (try (refine gate_guard (by rfl) ?_; dsimp only)); refine Kd.R_lit k34 _ 34 ?hg (N := 10) ?hd (xs := ([(⟨([] : List Int), ([] : List (S84)), (⟨1, 0, 1, 2, ([] : List Int), ([] : List Int)⟩ : S32)⟩ : S34), (⟨([] : List Int), ([] : List (S84)), (⟨0, 0, 3, 0, ([] : List Int), ([] : List Int)⟩ : S32)⟩ : S34), (⟨([] : List Int), ([] : List (S84)), (⟨0, 0, 3, 0, ([] : List Int), ([] : List Int)⟩ : S32)⟩ : S34), (⟨([] : List Int), ([] : List (S84)), (⟨2, 0, 0, 0, ([] : List Int), ([] : List Int)⟩ : S32)⟩ : S34)] : List (S34))) (inner := [.slice none 0 0, .slice none 0 0, .int .i64 1, .int .i64 0, .int .i64 1, .int .i64 2, .slice none 0 0, .slice none 0 0, .slice none 0 0, .slice none 0 0, .int .i64 0, .int .i64 0, .int .i64 3, .int .i64 0, .slice none 0 0, .slice none 0 0, .slice none 0 0, .slice none 0 0, .int .i64 0, .int .i64 0, .int .i64 3, .int .i64 0, .slice none 0 0, .slice none 0 0, .slice none 0 0, .slice none 0 0, .int .i64 2, .int .i64 0, .int .i64 0, .int .i64 0, .slice none 0 0, .slice none 0 0]) (ok := fun _ => True) (okp := fun _ => True) ?hr ?hp (fun _ hk => hk) trivial (Below.refl _ _) (Nat.le_refl _) (by simp) ?_; (case hd => rfl); (case hg => rfl); (case hr => first | (go_simp; done) | (go_simp; rfl)); (case hp => exact (Reps.c8 (show Kd.M k34 _ _ _ (⟨([] : List Int), ([] : List (S84)), (⟨1, 0, 1, 2, ([] : List Int), ([] : List Int)⟩ : S32)⟩ : S34) [.slice none 0 0, .slice none 0 0, .int .i64 1, .int .i64 0, .int .i64 1, .int .i64 2, .slice none 0 0, .slice none 0 0] from (k34_mkM _ _ _ (⟨([] : List Int), ([] : List (S84)), (⟨1, 0, 1, 2, ([] : List Int), ([] : List Int)⟩ : S32)⟩ : S34) (Kd.R_nil _ _ _ _ _) (Kd.R_nil _ _ _ _ _) (Kd.R_nil _ _ _ _ _) (Kd.R_nil _ _ _ _ _))) (Reps.c8 (show Kd.M k34 _ _ _ (⟨([] : List Int), ([] : List (S84)), (⟨0, 0, 3, 0, ([] : List Int), ([] : List Int)⟩ : S32)⟩ : S34) [.slice none 0 0, .slice none 0 0, .int .i64 0, .int .i64 0, .int .i64 3, .int .i64 0, .slice none 0 0, .slice none 0 0] from (k34_mkM _ _ _ (⟨([] : List Int), ([] : List (S84)), (⟨0, 0, 3, 0, ([] : List Int), ([] : List Int)⟩ : S32)⟩ : S34) (Kd.R_nil _ _ _ _ _) (Kd.R_nil _ _ _ _ _) (Kd.R_nil _ _ _ _ _) (Kd.R_nil _ _ _ _ _))) (Reps.c8 (show Kd.M k34 _ _ _ (⟨([] : List Int), ([] : List (S84)), (⟨0, 0, 3, 0, ([] : List Int), ([] : List Int)⟩ : S32)⟩ : S34) [.slice none 0 0, .slice none 0 0, .int .i64 0, .int .i64 0, .int .i64 3, .int .i64 0, .slice none 0 0, .slice none 0 0] from (k34_mkM _ _ _ (⟨([] : List Int), ([] : List (S84)), (⟨0, 0, 3, 0, ([] : List Int), ([] : List Int)⟩ : S32)⟩ : S34) (Kd.R_nil _ _ _ _ _) (Kd.R_nil _ _ _ _ _) (Kd.R_nil _ _ _ _ _) (Kd.R_nil _ _ _ _ _))) (Reps.c8 (show Kd.M k34 _ _ _ (⟨([] : List Int), ([] : List (S84)), (⟨2, 0, 0, 0, ([] : List Int), ([] : List Int)⟩ : S32)⟩ : S34) [.slice none 0 0, .slice none 0 0, .int .i64 2, .int .i64 0, .int .i64 0, .int .i64 0, .slice none 0 0, .slice none 0 0] from (k34_mkM _ _ _ (⟨([] : List Int), ([] : List (S84)), (⟨2, 0, 0, 0, ([] : List Int), ([] : List Int)⟩ : S32)⟩ : S34) (Kd.R_nil _ _ _ _ _) (Kd.R_nil _ _ _ _ _) (Kd.R_nil _ _ _ _ _) (Kd.R_nil _ _ _ _ _))) (Reps.none _ _)))))); intro v153 w23 ho24 hb hg_ hnew_; clear hg_ hnew_; (first | rw [← Ny152.out] at ho24 | (simp only [Int.reduceToNat] at ho24; rw [← Ny152.out] at ho24)); have n0_ := Aside0.mk (Kd.R_lower ho24 (below_size (by repeat (first | (with_reducible first | exact HB.out | apply below_alloc | apply pw_below_drewN | apply below_drew1) | exact HB.out)))); have n1_ := Aside0.mk (below_step (by repeat (first | (with_reducible first | exact HB.out | apply below_alloc | apply pw_below_drewN | apply below_drew1) | exact HB.out)) hb); clear HB; have HO154 := n0_; have HB := n1_; clear n0_ n1_; clear hb ho24; obtain ⟨Ao25, co25, eo25⟩ := Kd.R_slice HO154.out; subst eo25) | ((with_reducible refine gate_dst (N := 1) rfl ?_); (try (refine gate_guard (by rfl) ?_; dsimp only)); refine box_event ?hg (N := 1) ?hd (cs := #[.int .i64 0, .slice none 0 0]) (t := 24) ?hr ?_; (case hd => rfl); (case hg => rfl); (case hr => first | (go_simp; done) | (go_simp; rfl)); intro gb155 hg w26 hbox hb; have n0_ := Aside0.mk (Kd.R_below (by (with_reducible repeat (first | apply Kd.R_alloc | apply Kd.R_drewN | apply Kd.R_drew)); exact HO154.out) hb); have n1_ := Aside0.mk (below_step (by repeat (first | (with_reducible first | exact HB.out | apply below_alloc | apply pw_below_drewN | apply below_drew1) | exact HB.out)) hb); have n2_ := Aside0.mk (hbox); have n3_ := Aside0.mk ((by rw [hg]; exact (below_size (by repeat (first | (with_reducible first | exact HB.out | apply below_alloc | apply pw_below_drewN | apply below_drew1) | exact HB.out))) : w.heap.size ≤ gb155)); have n4_ := Aside0.mk ((by rw [hg]; exact (below_size (by repeat (first | (with_reducible first | exact HB.out | apply below_alloc | apply pw_below_drewN | apply below_drew1) | exact HB.out))) : w.heap.size ≤ gb155)); clear HO154; clear HB; have HO154 := n0_; have HB := n1_; have BK155 := n2_; have GW155 := n3_; have GE155 := n4_; clear n0_ n1_ n2_ n3_ n4_; clear hb hbox hg; have hcz27_0 : w26.cell? ⟨gb155, 0, none⟩ = some (.int .i64 0) := (blk_cell BK155.out 0).trans rfl; have hcz27_1 : w26.cell? ⟨gb155, 1, none⟩ = some (.slice none 0 0) := (blk_cell BK155.out 1).trans rfl; have hfz27_0 := blk_frozen BK155.out 0; have hfz27_1 := blk_frozen BK155.out 1) | ((with_reducible refine gate_callee (f := 9) rfl ?_); refine goesL_ (some 13) rfl rfl Try.func9 (by kernel_rfl) rfl #[.agg #[.int .i64 0, .slice Ao25 y152.length co25]] rfl (by (try simp only [List.map_toArray, List.map_cons, List.map_nil]); first | done | rfl | (simp only [List.length_drop, List.length_take]; rfl)) ?_; (with_reducible refine (cfg_Order.calls 0 _ _ y152 t156 _ ?side1 ?side2 A1.out).mono ?_); (case side1 => refine (Kd.R_reads' (e := 34) (base := w.heap.size) (ok := fun k_ => True) (n := y152.length) (c := co25) ?_).2.2; exact (by (with_reducible repeat (first | apply Kd.R_alloc | apply Kd.R_drewN | apply Kd.R_drew)); exact (Kd.R_mono (Kd.R_far (p := ⟨gb155, 1, none⟩) (Kd.R_far (p := ⟨gb155, 0, none⟩) (Kd.R_types HO154.out BK155.out (by decide)) (fun _ hk => hk.2) (.int .i64 0)) (fun _ hk => hk.2) (.slice Ao25 y152.length co25)) (fun _ h_ => h_.1)))); (case side2 => exact (Kd.R_reads' HO154.out).2.1); rintro e w28 ⟨v157, rfl, ho0, hb⟩; refine ⟨_, rfl, ?_⟩; have n0_ := Aside0.mk (Kd.R_elder' (by (with_reducible repeat (first | apply Kd.R_alloc | apply Kd.R_drewN | apply Kd.R_drew)); exact (Kd.R_mono (Kd.R_far (p := ⟨gb155, 1, none⟩) (Kd.R_far (p := ⟨gb155, 0, none⟩) (Kd.R_types HO154.out BK155.out (by decide)) (fun _ hk => hk.2) (.int .i64 0)) (fun _ hk => hk.2) (.slice Ao25 y152.length co25)) (fun _ h_ => h_.1))) (Kd.R_base ho0) hb); have n1_ := Aside0.mk (Kd.R_lower ho0 (below_size (by repeat (first | (with_reducible first | exact HB.out | apply below_alloc | apply pw_below_drewN | apply below_drew1 | refine below_set ?_ GE155.out) | exact HB.out)))); have n2_ := Aside0.mk (blk_below (g := gb155) (o := .cells #[.int .i64 0, .slice Ao25 y152.length co25] 24 (0, 0)) (by (with_reducible repeat (first | refine blk_drewN ?_ _ | refine blk_drew ?_ | refine blk_alloc ?_ _)); refine blk_put (cs := #[.int .i64 0, .slice none 0 0]) ?_ 1 _ rfl; (with_reducible repeat (first | refine blk_drewN ?_ _ | refine blk_drew ?_ | refine blk_alloc ?_ _)); refine blk_put (cs := #[.int .i64 0, .slice none 0 0]) ?_ 0 _ rfl; (with_reducible repeat (first | refine blk_drewN ?_ _ | refine blk_drew ?_ | refine blk_alloc ?_ _)); exact BK155.out) hb); have n3_ := Aside0.mk (below_step (by repeat (first | (with_reducible first | exact HB.out | apply below_alloc | apply pw_below_drewN | apply below_drew1 | refine below_set ?_ GE155.out) | exact HB.out)) hb); clear HO154; clear BK155; clear HB; have HO154 := n0_; have HO158 := n1_; have BK155 := n2_; have HB := n3_; clear n0_ n1_ n2_ n3_; (try clear hb); (try clear hb2); (try clear hk); (try clear hi); (try clear ho0)) | ((with_reducible refine gate_dst (N := 14) rfl ?_); (try (refine gate_guard (by rfl) ?_; dsimp only)); refine Kd.R_lit (Kd.int .i64) _ 3 ?hg (N := 14) ?hd (xs := ([0, 2, 1, 3] : List Int)) (inner := [.int .i64 0, .int .i64 2, .int .i64 1, .int .i64 3]) (ok := fun _ => True) (okp := fun _ => True) ?hr ?hp (fun _ hk => hk) trivial (Below.refl _ _) (Nat.le_refl _) (by simp) ?_; (case hd => rfl); (case hg => rfl); (case hr => first | (go_simp; done) | (go_simp; rfl)); (case hp => exact (Reps.one (show Kd.M (Kd.int .i64) _ _ _ 0 [.int .i64 0] from rfl) (Reps.one (show Kd.M (Kd.int .i64) _ _ _ 2 [.int .i64 2] from rfl) (Reps.one (show Kd.M (Kd.int .i64) _ _ _ 1 [.int .i64 1] from rfl) (Reps.one (show Kd.M (Kd.int .i64) _ _ _ 3 [.int .i64 3] from rfl) (Reps.none _ _)))))); intro v160 w29 ho30 hb hg_ hnew_; clear hg_ hnew_; (first | rw [← Ny159.out] at ho30 | (simp only [Int.reduceToNat] at ho30; rw [← Ny159.out] at ho30)); have n0_ := Aside0.mk (Kd.R_elder' (by (with_reducible repeat (first | apply Kd.R_alloc | apply Kd.R_drewN | apply Kd.R_drew)); exact HO154.out) (Kd.R_base ho30) hb); have n1_ := Aside0.mk (Kd.R_elder' (by (with_reducible repeat (first | apply Kd.R_alloc | apply Kd.R_drewN | apply Kd.R_drew)); exact HO158.out) (Kd.R_base ho30) hb); have n2_ := Aside0.mk (Kd.R_lower (Kd.R_new' ho30 (Kd.R_lt (by (with_reducible repeat (first | apply Kd.R_alloc | apply Kd.R_drewN | apply Kd.R_drew)); exact HO158.out))) (below_size (by repeat (first | (with_reducible first | exact HB.out | apply below_alloc | apply pw_below_drewN | apply below_drew1 | refine below_set ?_ GE155.out) | exact HB.out)))); have n3_ := Aside0.mk (blk_below (g := gb155) (o := .cells #[.int .i64 0, .slice Ao25 y152.length co25] 24 (0, 0)) (by (with_reducible repeat (first | refine blk_drewN ?_ _ | refine blk_drew ?_ | refine blk_alloc ?_ _)); exact BK155.out) hb); have n4_ := Aside0.mk (below_step (by repeat (first | (with_reducible first | exact HB.out | apply below_alloc | apply pw_below_drewN | apply below_drew1 | refine below_set ?_ GE155.out) | exact HB.out)) hb); clear HO154; clear HO158; clear BK155; clear HB; have HO154 := n0_; have HO158 := n1_; have HO161 := n2_; have BK155 := n3_; have HB := n4_; clear n0_ n1_ n2_ n3_ n4_; clear hb ho30; obtain ⟨Ao31, co31, eo31⟩ := Kd.R_slice HO158.out; subst eo31; obtain ⟨Ao32, co32, eo32⟩ := Kd.R_slice HO161.out; subst eo32) | ((with_reducible refine gate_callee (f := 14) rfl ?_); refine goesL_ (some 15) rfl rfl Try.func14 (by kernel_rfl) rfl #[.slice Ao31 t156.length co31, .slice Ao32 y159.length co32] rfl (by (try simp only [List.map_toArray, List.map_cons, List.map_nil]); first | done | rfl | (simp only [List.length_drop, List.length_take]; rfl)) ?_; (with_reducible refine (hallmarkref04_Ints.calls k _ _ t156 _ _ y159 false _ ?side1 ?side2 ?side3 ?side4 A2.out).mono ?_); (case side1 => repeat (first | exact (Kd.R_reads' HO158.out).2.2 | (with_reducible refine Kd.C_alloc ?_ _) | (with_reducible refine Kd.C_drewN ?_ _) | (with_reducible refine Kd.C_drew ?_))); (case side2 => exact (Kd.R_reads' HO158.out).2.1); (case side3 => repeat (first | exact (Kd.R_reads' HO161.out).2.2 | (with_reducible refine Kd.C_alloc ?_ _) | (with_reducible refine Kd.C_drewN ?_ _) | (with_reducible refine Kd.C_drew ?_))); (case side4 => exact (Kd.R_reads' HO161.out).2.1); rintro e w' ⟨rfl, ⟨nd, rfl⟩⟩; refine ⟨_, rfl, ?_⟩))
    go_ret
    exact ⟨by first | rfl | (simp [errW_none, errW_some] <;> rfl) | (simp [*, errW_none, errW_some] <;> rfl), by repeat (first | (with_reducible first | exact HB.out | apply below_alloc | apply pw_below_drewN | apply below_drew1 | refine below_set ?_ GE155.out) | exact HB.out)⟩

/-! ### cfg_Ahead: function 18 -/
mutual
def cfg_Ahead.l0 : Nat → List (List Int) → List (S34) → Int → Int → Int → List (S34) → Option ((List (List Int)))
  | 0, _, _, _, _, _, _ => none
  | k + 1, x3, x13, x14, x15, x172000, x172001 => if x15 < x14 then (if 0 ≤ x15 then (if x15 < (x13.length : Int) then ((cfg_next.f ((rd_T34 x13 x15).f0) ((rd_T34 x13 x15).f1) ((rd_T34 x13 x15).f2.f0) ((rd_T34 x13 x15).f2.f1) ((rd_T34 x13 x15).f2.f2) ((rd_T34 x13 x15).f2.f3) ((rd_T34 x13 x15).f2.f4) ((rd_T34 x13 x15).f2.f5)).bind fun t177 => (cfg_Ahead.l1 k x3 x15 x13 x14 x15 t177 (t177.length : Int) 0 x172000 x172001)) else (none)) else (none)) else (some x3)
def cfg_Ahead.l1 : Nat → List (List Int) → Int → List (S34) → Int → Int → List Int → Int → Int → Int → List (S34) → Option ((List (List Int)))
  | 0, _, _, _, _, _, _, _, _, _, _ => none
  | k + 1, x3, x4, x13, x14, x15, x21, x22, x23, x172000, x172001 => if x23 < x22 then (if 0 ≤ x23 then (if x23 < (x21.length : Int) then ((cfg_there.f x172000 x172001 (rd x21 x23)).bind fun t181 => (if t181 = true then (if 0 ≤ (rd x21 x23) then (if (rd x21 x23) < (x3.length : Int) then (if (rd_L1 x3 (rd x21 x23)).length < 17592186044416 then (cfg_Ahead.l1 k (x3.set ((rd x21 x23) : Int).toNat ((rd_L1 x3 (rd x21 x23)) ++ [x4])) x4 x13 x14 x15 x21 x22 (wrap64 (x23 + 1)) x172000 x172001) else (none)) else (none)) else (none)) else (cfg_Ahead.l1 k x3 x4 x13 x14 x15 x21 x22 (wrap64 (x23 + 1)) x172000 x172001))) else (none)) else (none)) else (cfg_Ahead.l0 k x3 x13 x14 (wrap64 (x15 + 1)) x172000 x172001)
end
def cfg_Ahead.f (k : Nat) (a0_0 : Int) (l0_1 : List (S34)) : Option ((List (List Int))) := if 0 ≤ (l0_1.length : Int) then (if ((l0_1.length : Int) : Int).toNat ≤ 11728124029610 then (cfg_Ahead.l0 k (List.replicate ((l0_1.length : Int) : Int).toNat []) l0_1 (l0_1.length : Int) 0 a0_0 l0_1) else (none)) else (none)
theorem cfg_Ahead.mono_l : ∀ k, (∀ y0 y1 y2 y3 y4 y5, LeO (cfg_Ahead.l0 k y0 y1 y2 y3 y4 y5) (cfg_Ahead.l0 (k + 1) y0 y1 y2 y3 y4 y5)) ∧ (∀ y0 y1 y2 y3 y4 y5 y6 y7 y8 y9, LeO (cfg_Ahead.l1 k y0 y1 y2 y3 y4 y5 y6 y7 y8 y9) (cfg_Ahead.l1 (k + 1) y0 y1 y2 y3 y4 y5 y6 y7 y8 y9))
  | 0 => ⟨fun _ _ _ _ _ _ r h => by simp [cfg_Ahead.l0] at h, fun _ _ _ _ _ _ _ _ _ _ r h => by simp [cfg_Ahead.l1] at h⟩
  | k + 1 => by
    obtain ⟨ih0, ih1⟩ := cfg_Ahead.mono_l k
    refine ⟨?_, ?_⟩
    · intro y0 y1 y2 y3 y4 y5
      unfold cfg_Ahead.l0
      repeat' first
      | (with_reducible exact ih0 _ _ _ _ _ _)
      | (with_reducible exact ih1 _ _ _ _ _ _ _ _ _ _)
      | (with_reducible exact LeO.refl _)
      | (with_reducible exact LeO.none _)
      | (with_reducible refine LeO.ite ?_ ?_)
      | (with_reducible refine LeO.bind ?_ (fun _ => ?_))
      | exact ih0 _ _ _ _ _ _
      | exact ih1 _ _ _ _ _ _ _ _ _ _
      | exact LeO.none _
      | refine LeO.ite ?_ ?_
      | refine LeO.bind ?_ (fun _ => ?_)
    · intro y0 y1 y2 y3 y4 y5 y6 y7 y8 y9
      unfold cfg_Ahead.l1
      repeat' first
      | (with_reducible exact ih0 _ _ _ _ _ _)
      | (with_reducible exact ih1 _ _ _ _ _ _ _ _ _ _)
      | (with_reducible exact LeO.refl _)
      | (with_reducible exact LeO.none _)
      | (with_reducible refine LeO.ite ?_ ?_)
      | (with_reducible refine LeO.bind ?_ (fun _ => ?_))
      | exact ih0 _ _ _ _ _ _
      | exact ih1 _ _ _ _ _ _ _ _ _ _
      | exact LeO.none _
      | refine LeO.ite ?_ ?_
      | refine LeO.bind ?_ (fun _ => ?_)
theorem cfg_Ahead.mono : ∀ a0 a1 k, LeO (cfg_Ahead.f k a0 a1) (cfg_Ahead.f (k + 1) a0 a1) := by
  intro a0 a1 k
  obtain ⟨ih0, ih1⟩ := cfg_Ahead.mono_l k
  unfold cfg_Ahead.f
  repeat' first
      | (with_reducible exact ih0 _ _ _ _ _ _)
      | (with_reducible exact ih1 _ _ _ _ _ _ _ _ _ _)
      | (with_reducible exact LeO.refl _)
      | (with_reducible exact LeO.none _)
      | (with_reducible refine LeO.ite ?_ ?_)
      | (with_reducible refine LeO.bind ?_ (fun _ => ?_))
      | exact ih0 _ _ _ _ _ _
      | exact ih1 _ _ _ _ _ _ _ _ _ _
      | exact LeO.none _
      | refine LeO.ite ?_ ?_
      | refine LeO.bind ?_ (fun _ => ?_)
set_option maxHeartbeats 8000000 in
set_option maxRecDepth 100000 in
theorem cfg_Ahead.calls (k : Nat) (a0_0 : Int) (A0_1 : Option Addr) (c0_1 : Nat) (l0_1 : List (S34)) (r : List (List Int)) (w : World) (hr0_1 : Kd.C k34 w A0_1 l0_1.length l0_1) (hc0_1 : l0_1.length ≤ c0_1) (h : cfg_Ahead.f k a0_0 l0_1 = some r) :
    Calls Try.prog 18 #[.agg #[.int .i64 a0_0, .slice A0_1 l0_1.length c0_1]] w fun e w' => ∃ v0_ : Value, e = .returned (v0_) ∧ Kd.S (Kd.slice 3 (Kd.int .i64)) 26 w' w.heap.size (fun _ => True) v0_ r ∧ Below w.heap.size w w' := by
  have hu24 := Try.underlying24
  have hu34 := Try.underlying34
  have HR0_1 := Aside0.mk hr0_1
  have HC0_1 := Aside0.mk hc0_1
  clear hr0_1 hc0_1
  have HB := Aside0.mk (Below.refl w.heap.size w)
  have H : (if 0 ≤ (l0_1.length : Int) then (if ((l0_1.length : Int) : Int).toNat ≤ 11728124029610 then (cfg_Ahead.l0 k (List.replicate ((l0_1.length : Int) : Int).toNat []) l0_1 (l0_1.length : Int) 0 a0_0 l0_1) else (none)) else (none)) = some r := h
  clear h
  by_cases c2 : 0 ≤ (l0_1.length : Int)
  · rw [if_pos c2] at H
    have c2b0 := eq_true c2
    have c2b1 : decide (0 ≤ (l0_1.length : Int)) = true := decide_eq_true c2
    clear c2
    by_cases c3 : ((l0_1.length : Int) : Int).toNat ≤ 11728124029610
    · rw [if_pos c3] at H
      have c3b0 := eq_true c3
      have c3b1 : decide (((l0_1.length : Int) : Int).toNat ≤ 11728124029610) = true := decide_eq_true c3
      clear c3
      obtain ⟨y172, hy172⟩ : ∃ y_ : List (List Int), y_ = (List.replicate ((l0_1.length : Int) : Int).toNat []) := ⟨_, rfl⟩
      replace H : (cfg_Ahead.l0 k y172 l0_1 (l0_1.length : Int) 0 a0_0 l0_1) = some r := by first | (rw [hy172]; with_reducible exact H) | (have H2_ := (Option.bind_some _ _).symm.trans H; rw [hy172]; with_reducible exact H2_) | (have H2_ := (Option.bind_some _ _).symm.trans H; with_reducible exact H2_) | with_reducible exact H | (rw [hy172]; exact H) | exact H
      have Ny172 := Aside0.mk hy172
      clear hy172
      have H' := Aside0.mk H
      clear H
      go_enter Try.func18, Try.ntmps18
      go_wp2_with (first | ((with_reducible refine gate_dst (N := 1) rfl ?_); refine box_event ?hg (N := 1) ?hd (cs := #[.int .i64 a0_0, .slice A0_1 l0_1.length c0_1]) (t := 24) ?hr ?_; (case hd => rfl); (case hg => rfl); (case hr => first | (go_simp; done) | (go_simp; rfl)); intro gb171 hg w4 hbox hb; have n0_ := Aside0.mk (below_step (by repeat (first | (with_reducible first | exact HB.out | apply below_alloc | apply pw_below_drewN | apply below_drew1) | exact HB.out)) hb); have n1_ := Aside0.mk (hbox); have n2_ := Aside0.mk ((by rw [hg]; exact (below_size (by repeat (first | (with_reducible first | exact HB.out | apply below_alloc | apply pw_below_drewN | apply below_drew1) | exact HB.out))) : w.heap.size ≤ gb171)); have n3_ := Aside0.mk ((by rw [hg]; exact (below_size (by repeat (first | (with_reducible first | exact HB.out | apply below_alloc | apply pw_below_drewN | apply below_drew1) | exact HB.out))) : w.heap.size ≤ gb171)); clear HB; have HB := n0_; have BK171 := n1_; have GW171 := n2_; have GE171 := n3_; clear n0_ n1_ n2_ n3_; clear hb hbox hg; have hcz5_0 : w4.cell? ⟨gb171, 0, none⟩ = some (.int .i64 a0_0) := (blk_cell BK171.out 0).trans rfl; have hcz5_1 : w4.cell? ⟨gb171, 1, none⟩ = some (.slice A0_1 l0_1.length c0_1) := (blk_cell BK171.out 1).trans rfl; have hfz5_0 := blk_frozen BK171.out 0; have hfz5_1 := blk_frozen BK171.out 1) | ((with_reducible refine gate_dst (N := 11) rfl ?_); refine Kd.S_make (Kd.slice 3 (Kd.int .i64)) _ 26 rfl (N := 11) rfl 40 _ _ rfl (l0_1.length : Int) rfl rfl Try.underlying40 (.slice none 0 0) 24 info26 rfl (by decide) (by omega) [] (ok := fun _ => True) (okp := fun _ => True) ⟨_, rfl, Kd.R_nil _ _ _ _ _⟩ (fun _ hk => hk) trivial (of_decide_eq_true (by first | (with_reducible assumption) | assumption)) (Nat.le_trans (Nat.mul_le_mul_right _ (of_decide_eq_true (by first | (with_reducible assumption) | assumption) : (l0_1.length : Int).toNat ≤ 11728124029610)) (by omega)) (Below.refl _ _) (Nat.le_refl _) ?_; intro v173 w6 ho7 hb hg_ hnew_; clear hg_ hnew_; (first | rw [← Ny172.out] at ho7 | (simp only [Int.reduceToNat] at ho7; rw [← Ny172.out] at ho7)); have n0_ := Aside0.mk (Kd.S_lower ho7 (below_size (by repeat (first | (with_reducible first | exact HB.out | apply below_alloc | apply pw_below_drewN | apply below_drew1 | refine below_set ?_ GE171.out) | exact HB.out)))); have n1_ := Aside0.mk (blk_below (g := gb171) (o := .cells #[.int .i64 a0_0, .slice A0_1 l0_1.length c0_1] 24 (0, 0)) (by (with_reducible repeat (first | refine blk_drewN ?_ _ | refine blk_drew ?_ | refine blk_alloc ?_ _)); exact BK171.out) hb); have n2_ := Aside0.mk (below_step (by repeat (first | (with_reducible first | exact HB.out | apply below_alloc | apply pw_below_drewN | apply below_drew1 | refine below_set ?_ GE171.out) | exact HB.out)) hb); clear BK171; clear HB; have HO174 := n0_; have BK171 := n1_; have HB := n2_; clear n0_ n1_ n2_; clear hb ho7; have hcz8_0 : w6.cell? ⟨gb171, 0, none⟩ = some (.int .i64 a0_0) := (blk_cell BK171.out 0).trans rfl; have hcz8_1 : w6.cell? ⟨gb171, 1, none⟩ = some (.slice A0_1 l0_1.length c0_1) := (blk_cell BK171.out 1).trans rfl; have hfz8_0 := blk_frozen BK171.out 0; have hfz8_1 := blk_frozen BK171.out 1))
      go_loopg [15] k (fun kq v15 w' => ∃ (x3_1 : List (List Int)) (x15_1 : Int), v15 = .int .i64 x15_1 ∧ Aside0 (cfg_Ahead.l0 kq x3_1 l0_1 (l0_1.length : Int) x15_1 a0_0 l0_1 = some r) ∧ Aside0 (kq ≤ k) ∧ Aside0 (Kd.S (Kd.slice 3 (Kd.int .i64)) 26 w' w.heap.size (fun _ => True) v173 x3_1) ∧ Aside0 (w'.heap[gb171]? = some (.cells #[.int .i64 a0_0, (.slice A0_1 l0_1.length c0_1)] 24 (0, 0))) ∧ Aside0 (Below w.heap.size w w'))
      case atStart => exact ⟨(y172), (0), (by first | rfl | (simp; done) | (simp [*]; done)), H', ⟨Nat.le_refl _⟩, ⟨by (with_reducible repeat (first | apply Kd.S_alloc | apply Kd.S_drewN | apply Kd.S_drew)); exact HO174.out⟩, ⟨by (with_reducible repeat (first | refine blk_drewN ?_ _ | refine blk_drew ?_ | refine blk_alloc ?_ _)); exact BK171.out⟩, ⟨by repeat (first | (with_reducible first | exact HB.out | apply below_alloc | apply pw_below_drewN | apply below_drew1 | refine below_set ?_ GE171.out) | exact HB.out)⟩⟩
      case round =>
        clear H'
        try clear c1
        try clear c2
        try clear c2b0
        try clear c2b1
        try clear p2
        try clear c3
        try clear c3b0
        try clear c3b1
        try clear hcz5_0
        try clear hcz5_1
        try clear hcz8_0
        try clear hcz8_1
        try clear hfz5_0
        try clear hfz5_1
        try clear hfz8_0
        try clear hfz8_1
        obtain ⟨x3_1, x15_1, rfl, HA, HK1, HO_3, BK171, HB⟩ := hrel
        cases gk with
        | zero => exact absurd HA.out (by simp [cfg_Ahead.l0])
        | succ k1 =>
          have H := HA.out
          clear HA
          simp only [cfg_Ahead.l0] at H
          by_cases c9 : x15_1 < (l0_1.length : Int)
          · rw [if_pos c9] at H
            have c9b0 : decide (x15_1 < (l0_1.length : Int)) = true := decide_eq_true c9
            clear c9
            by_cases c10 : 0 ≤ x15_1
            · rw [if_pos c10] at H
              have c10b0 : decide (0 ≤ x15_1) = true := decide_eq_true c10
              clear c10
              by_cases c11 : x15_1 < (l0_1.length : Int)
              · rw [if_pos c11] at H
                have c11b0 : decide (x15_1 < (l0_1.length : Int)) = true := decide_eq_true c11
                clear c11
                replace H := Option.bind_eq_some_iff.mp H
                obtain ⟨t177, A120, H⟩ := H
                replace H : (cfg_Ahead.l1 k1 x3_1 x15_1 l0_1 (l0_1.length : Int) x15_1 t177 (t177.length : Int) 0 a0_0 l0_1) = some r := H
                have A12 := Aside0.mk A120
                clear A120
                have H' := Aside0.mk H
                clear H
                have p175 : 0 ≤ (x15_1 : Int) := of_decide_eq_true (by first | (with_reducible assumption) | assumption)
                have q175 : x15_1 < (l0_1.length : Int) := of_decide_eq_true (by first | (with_reducible assumption) | assumption)
                obtain ⟨ad175, A175_0, c175_0, A175_1, c175_1, A175_6, c175_6, A175_7, c175_7, e175, hx175_0, hx175_1, hx175_2, hx175_3, hx175_4, hx175_5, hx175_6, hx175_7, hl175_0, hi175_0, hl175_1, hi175_1, hl175_6, hi175_6, hl175_7, hi175_7⟩ := at_T34 HR0_1.out x15_1 p175 q175
                cases e175
                replace hx175_0 := (HB.out.cell (World.block_lt_of_cell? w _ hx175_0)).trans hx175_0
                replace hx175_1 := (HB.out.cell (World.block_lt_of_cell? w _ hx175_1)).trans hx175_1
                replace hx175_2 := (HB.out.cell (World.block_lt_of_cell? w _ hx175_2)).trans hx175_2
                replace hx175_3 := (HB.out.cell (World.block_lt_of_cell? w _ hx175_3)).trans hx175_3
                replace hx175_4 := (HB.out.cell (World.block_lt_of_cell? w _ hx175_4)).trans hx175_4
                replace hx175_5 := (HB.out.cell (World.block_lt_of_cell? w _ hx175_5)).trans hx175_5
                replace hx175_6 := (HB.out.cell (World.block_lt_of_cell? w _ hx175_6)).trans hx175_6
                replace hx175_7 := (HB.out.cell (World.block_lt_of_cell? w _ hx175_7)).trans hx175_7
                have HR175_0 := Aside0.mk hi175_0
                have HC175_0 := Aside0.mk hl175_0
                clear hi175_0 hl175_0
                have HR175_1 := Aside0.mk hi175_1
                have HC175_1 := Aside0.mk hl175_1
                clear hi175_1 hl175_1
                have HR175_6 := Aside0.mk hi175_6
                have HC175_6 := Aside0.mk hl175_6
                clear hi175_6 hl175_6
                have HR175_7 := Aside0.mk hi175_7
                have HC175_7 := Aside0.mk hl175_7
                clear hi175_7 hl175_7
                replace p175 := eq_true p175
                replace q175 := eq_true q175
                go_wp2_with (first | ((with_reducible refine gate_dst (N := 5) rfl ?_); refine box_event ?hg (N := 5) ?hd (cs := #[.slice none 0 0, .slice none 0 0, .int .i64 0, .int .i64 0, .int .i64 0, .int .i64 0, .slice none 0 0, .slice none 0 0]) (t := 34) ?hr ?_; (case hd => rfl); (case hg => rfl); (case hr => first | (go_simp; done) | (go_simp; rfl)); intro gb176 hg w13 hbox hb; have n0_ := Aside0.mk (Kd.S_below (by (with_reducible repeat (first | apply Kd.S_alloc | apply Kd.S_drewN | apply Kd.S_drew)); exact HO_3.out) hb); have n1_ := Aside0.mk (blk_below (g := gb171) (o := .cells #[.int .i64 a0_0, .slice (some ad175) l0_1.length c0_1] 24 (0, 0)) (by (with_reducible repeat (first | refine blk_drewN ?_ _ | refine blk_drew ?_ | refine blk_alloc ?_ _)); exact BK171.out) hb); have n2_ := Aside0.mk (below_step (by repeat (first | (with_reducible first | exact HB.out | apply below_alloc | apply pw_below_drewN | apply below_drew1 | refine below_set ?_ GE171.out) | exact HB.out)) hb); have n3_ := Aside0.mk (hbox); have n4_ := Aside0.mk ((by rw [hg]; exact (below_size (by repeat (first | (with_reducible first | exact HB.out | apply below_alloc | apply pw_below_drewN | apply below_drew1 | refine below_set ?_ GE171.out) | exact HB.out))) : w.heap.size ≤ gb176)); have n5_ := Aside0.mk ((by rw [hg]; exact (below_size (by repeat (first | (with_reducible first | exact HB.out | apply below_alloc | apply pw_below_drewN | apply below_drew1 | refine below_set ?_ GE171.out) | exact HB.out))) : w.heap.size ≤ gb176)); have n6_ := Aside0.mk ((by rw [hg]; exact Nat.ne_of_lt (blk_lt (g := gb171) (o := .cells #[.int .i64 a0_0, .slice (some ad175) l0_1.length c0_1] 24 (0, 0)) (by (with_reducible repeat (first | refine blk_drewN ?_ _ | refine blk_drew ?_ | refine blk_alloc ?_ _)); exact BK171.out)) : gb171 ≠ gb176)); have n7_ := Aside0.mk ((by rw [hg]; exact Nat.ne_of_gt (blk_lt (g := gb171) (o := .cells #[.int .i64 a0_0, .slice (some ad175) l0_1.length c0_1] 24 (0, 0)) (by (with_reducible repeat (first | refine blk_drewN ?_ _ | refine blk_drew ?_ | refine blk_alloc ?_ _)); exact BK171.out)) : gb176 ≠ gb171)); clear HO_3; clear BK171; clear HB; have HO_3 := n0_; have BK171 := n1_; have HB := n2_; have BK176 := n3_; have GW176 := n4_; have GE176 := n5_; have NB171_176 := n6_; have NB176_171 := n7_; clear n0_ n1_ n2_ n3_ n4_ n5_ n6_ n7_; clear hb hbox hg; have hnb14 := NB176_171.out; have hnc14 := NB171_176.out; have hcz15_0 : w13.cell? ⟨gb176, 0, none⟩ = some (.slice none 0 0) := (blk_cell BK176.out 0).trans rfl; have hcz15_1 : w13.cell? ⟨gb176, 1, none⟩ = some (.slice none 0 0) := (blk_cell BK176.out 1).trans rfl; have hcz15_2 : w13.cell? ⟨gb176, 2, none⟩ = some (.int .i64 0) := (blk_cell BK176.out 2).trans rfl; have hcz15_3 : w13.cell? ⟨gb176, 3, none⟩ = some (.int .i64 0) := (blk_cell BK176.out 3).trans rfl; have hcz15_4 : w13.cell? ⟨gb176, 4, none⟩ = some (.int .i64 0) := (blk_cell BK176.out 4).trans rfl; have hcz15_5 : w13.cell? ⟨gb176, 5, none⟩ = some (.int .i64 0) := (blk_cell BK176.out 5).trans rfl; have hcz15_6 : w13.cell? ⟨gb176, 6, none⟩ = some (.slice none 0 0) := (blk_cell BK176.out 6).trans rfl; have hcz15_7 : w13.cell? ⟨gb176, 7, none⟩ = some (.slice none 0 0) := (blk_cell BK176.out 7).trans rfl; have hfz15_0 := blk_frozen BK176.out 0; have hfz15_1 := blk_frozen BK176.out 1; have hfz15_2 := blk_frozen BK176.out 2; have hfz15_3 := blk_frozen BK176.out 3; have hfz15_4 := blk_frozen BK176.out 4; have hfz15_5 := blk_frozen BK176.out 5; have hfz15_6 := blk_frozen BK176.out 6; have hfz15_7 := blk_frozen BK176.out 7) | ((with_reducible refine gate_callee (f := 26) rfl ?_); refine goesL_ (some 21) rfl rfl Try.func26 (by kernel_rfl) rfl #[.agg #[.slice A175_0 ((rd_T34 l0_1 x15_1).f0).length c175_0, .slice A175_1 ((rd_T34 l0_1 x15_1).f1).length c175_1, .int .i64 ((rd_T34 l0_1 x15_1).f2.f0), .int .i64 ((rd_T34 l0_1 x15_1).f2.f1), .int .i64 ((rd_T34 l0_1 x15_1).f2.f2), .int .i64 ((rd_T34 l0_1 x15_1).f2.f3), .slice A175_6 ((rd_T34 l0_1 x15_1).f2.f4).length c175_6, .slice A175_7 ((rd_T34 l0_1 x15_1).f2.f5).length c175_7]] rfl (by (try simp only [List.map_toArray, List.map_cons, List.map_nil]); first | done | rfl | (simp only [List.length_drop, List.length_take]; rfl)) ?_; (with_reducible refine (cfg_next.calls _ _ ((rd_T34 l0_1 x15_1).f0) _ _ ((rd_T34 l0_1 x15_1).f1) ((rd_T34 l0_1 x15_1).f2.f0) ((rd_T34 l0_1 x15_1).f2.f1) ((rd_T34 l0_1 x15_1).f2.f2) ((rd_T34 l0_1 x15_1).f2.f3) _ _ ((rd_T34 l0_1 x15_1).f2.f4) _ _ ((rd_T34 l0_1 x15_1).f2.f5) t177 _ ?side1 ?side2 ?side3 ?side4 ?side5 ?side6 ?side7 ?side8 A12.out).mono ?_); (case side1 => exact Kd.C_below HR175_0.out (by repeat (first | (with_reducible first | exact HB.out | apply below_alloc | apply pw_below_drewN | apply below_drew1 | refine below_set ?_ GE171.out | refine below_set ?_ GE176.out) | exact HB.out))); (case side2 => exact HC175_0.out); (case side3 => exact Kd.C_below HR175_1.out (by repeat (first | (with_reducible first | exact HB.out | apply below_alloc | apply pw_below_drewN | apply below_drew1 | refine below_set ?_ GE171.out | refine below_set ?_ GE176.out) | exact HB.out))); (case side4 => exact HC175_1.out); (case side5 => exact Kd.C_below HR175_6.out (by repeat (first | (with_reducible first | exact HB.out | apply below_alloc | apply pw_below_drewN | apply below_drew1 | refine below_set ?_ GE171.out | refine below_set ?_ GE176.out) | exact HB.out))); (case side6 => exact HC175_6.out); (case side7 => exact Kd.C_below HR175_7.out (by repeat (first | (with_reducible first | exact HB.out | apply below_alloc | apply pw_below_drewN | apply below_drew1 | refine below_set ?_ GE171.out | refine below_set ?_ GE176.out) | exact HB.out))); (case side8 => exact HC175_7.out); rintro e w16 ⟨v178, rfl, ho0, hb⟩; refine ⟨_, rfl, ?_⟩; have n0_ := Aside0.mk (Kd.S_elder' (by (with_reducible repeat (first | apply Kd.S_alloc | apply Kd.S_drewN | apply Kd.S_drew)); exact (Kd.S_mono (Kd.S_far (p := ⟨gb176, 7, none⟩) (Kd.S_far (p := ⟨gb176, 6, none⟩) (Kd.S_far (p := ⟨gb176, 5, none⟩) (Kd.S_far (p := ⟨gb176, 4, none⟩) (Kd.S_far (p := ⟨gb176, 3, none⟩) (Kd.S_far (p := ⟨gb176, 2, none⟩) (Kd.S_far (p := ⟨gb176, 1, none⟩) (Kd.S_far (p := ⟨gb176, 0, none⟩) (Kd.S_types HO_3.out BK176.out (by decide)) (fun _ hk => hk.2) (.slice A175_0 ((rd_T34 l0_1 x15_1).f0).length c175_0)) (fun _ hk => hk.2) (.slice A175_1 ((rd_T34 l0_1 x15_1).f1).length c175_1)) (fun _ hk => hk.2) (.int .i64 ((rd_T34 l0_1 x15_1).f2.f0))) (fun _ hk => hk.2) (.int .i64 ((rd_T34 l0_1 x15_1).f2.f1))) (fun _ hk => hk.2) (.int .i64 ((rd_T34 l0_1 x15_1).f2.f2))) (fun _ hk => hk.2) (.int .i64 ((rd_T34 l0_1 x15_1).f2.f3))) (fun _ hk => hk.2) (.slice A175_6 ((rd_T34 l0_1 x15_1).f2.f4).length c175_6)) (fun _ hk => hk.2) (.slice A175_7 ((rd_T34 l0_1 x15_1).f2.f5).length c175_7)) (fun _ h_ => h_.1))) (Kd.R_base ho0) hb); have n1_ := Aside0.mk (Kd.R_lower ho0 (below_size (by repeat (first | (with_reducible first | exact HB.out | apply below_alloc | apply pw_below_drewN | apply below_drew1 | refine below_set ?_ GE171.out | refine below_set ?_ GE176.out) | exact HB.out)))); have n2_ := Aside0.mk (blk_below (g := gb171) (o := .cells #[.int .i64 a0_0, .slice (some ad175) l0_1.length c0_1] 24 (0, 0)) (by (with_reducible repeat (first | refine blk_drewN ?_ _ | refine blk_drew ?_ | refine blk_alloc ?_ _)); refine blk_far ?_ NB171_176.out _; (with_reducible repeat (first | refine blk_drewN ?_ _ | refine blk_drew ?_ | refine blk_alloc ?_ _)); refine blk_far ?_ NB171_176.out _; (with_reducible repeat (first | refine blk_drewN ?_ _ | refine blk_drew ?_ | refine blk_alloc ?_ _)); refine blk_far ?_ NB171_176.out _; (with_reducible repeat (first | refine blk_drewN ?_ _ | refine blk_drew ?_ | refine blk_alloc ?_ _)); refine blk_far ?_ NB171_176.out _; (with_reducible repeat (first | refine blk_drewN ?_ _ | refine blk_drew ?_ | refine blk_alloc ?_ _)); refine blk_far ?_ NB171_176.out _; (with_reducible repeat (first | refine blk_drewN ?_ _ | refine blk_drew ?_ | refine blk_alloc ?_ _)); refine blk_far ?_ NB171_176.out _; (with_reducible repeat (first | refine blk_drewN ?_ _ | refine blk_drew ?_ | refine blk_alloc ?_ _)); refine blk_far ?_ NB171_176.out _; (with_reducible repeat (first | refine blk_drewN ?_ _ | refine blk_drew ?_ | refine blk_alloc ?_ _)); refine blk_far ?_ NB171_176.out _; (with_reducible repeat (first | refine blk_drewN ?_ _ | refine blk_drew ?_ | refine blk_alloc ?_ _)); exact BK171.out) hb); have n3_ := Aside0.mk (blk_below (g := gb176) (o := .cells #[.slice A175_0 ((rd_T34 l0_1 x15_1).f0).length c175_0, .slice A175_1 ((rd_T34 l0_1 x15_1).f1).length c175_1, .int .i64 ((rd_T34 l0_1 x15_1).f2.f0), .int .i64 ((rd_T34 l0_1 x15_1).f2.f1), .int .i64 ((rd_T34 l0_1 x15_1).f2.f2), .int .i64 ((rd_T34 l0_1 x15_1).f2.f3), .slice A175_6 ((rd_T34 l0_1 x15_1).f2.f4).length c175_6, .slice A175_7 ((rd_T34 l0_1 x15_1).f2.f5).length c175_7] 34 (0, 0)) (by (with_reducible repeat (first | refine blk_drewN ?_ _ | refine blk_drew ?_ | refine blk_alloc ?_ _)); refine blk_put (cs := #[.slice A175_0 ((rd_T34 l0_1 x15_1).f0).length c175_0, .slice A175_1 ((rd_T34 l0_1 x15_1).f1).length c175_1, .int .i64 ((rd_T34 l0_1 x15_1).f2.f0), .int .i64 ((rd_T34 l0_1 x15_1).f2.f1), .int .i64 ((rd_T34 l0_1 x15_1).f2.f2), .int .i64 ((rd_T34 l0_1 x15_1).f2.f3), .slice A175_6 ((rd_T34 l0_1 x15_1).f2.f4).length c175_6, .slice none 0 0]) ?_ 7 _ rfl; (with_reducible repeat (first | refine blk_drewN ?_ _ | refine blk_drew ?_ | refine blk_alloc ?_ _)); refine blk_put (cs := #[.slice A175_0 ((rd_T34 l0_1 x15_1).f0).length c175_0, .slice A175_1 ((rd_T34 l0_1 x15_1).f1).length c175_1, .int .i64 ((rd_T34 l0_1 x15_1).f2.f0), .int .i64 ((rd_T34 l0_1 x15_1).f2.f1), .int .i64 ((rd_T34 l0_1 x15_1).f2.f2), .int .i64 ((rd_T34 l0_1 x15_1).f2.f3), .slice none 0 0, .slice none 0 0]) ?_ 6 _ rfl; (with_reducible repeat (first | refine blk_drewN ?_ _ | refine blk_drew ?_ | refine blk_alloc ?_ _)); refine blk_put (cs := #[.slice A175_0 ((rd_T34 l0_1 x15_1).f0).length c175_0, .slice A175_1 ((rd_T34 l0_1 x15_1).f1).length c175_1, .int .i64 ((rd_T34 l0_1 x15_1).f2.f0), .int .i64 ((rd_T34 l0_1 x15_1).f2.f1), .int .i64 ((rd_T34 l0_1 x15_1).f2.f2), .int .i64 0, .slice none 0 0, .slice none 0 0]) ?_ 5 _ rfl; (with_reducible repeat (first | refine blk_drewN ?_ _ | refine blk_drew ?_ | refine blk_alloc ?_ _)); refine blk_put (cs := #[.slice A175_0 ((rd_T34 l0_1 x15_1).f0).length c175_0, .slice A175_1 ((rd_T34 l0_1 x15_1).f1).length c175_1, .int .i64 ((rd_T34 l0_1 x15_1).f2.f0), .int .i64 ((rd_T34 l0_1 x15_1).f2.f1), .int .i64 0, .int .i64 0, .slice none 0 0, .slice none 0 0]) ?_ 4 _ rfl; (with_reducible repeat (first | refine blk_drewN ?_ _ | refine blk_drew ?_ | refine blk_alloc ?_ _)); refine blk_put (cs := #[.slice A175_0 ((rd_T34 l0_1 x15_1).f0).length c175_0, .slice A175_1 ((rd_T34 l0_1 x15_1).f1).length c175_1, .int .i64 ((rd_T34 l0_1 x15_1).f2.f0), .int .i64 0, .int .i64 0, .int .i64 0, .slice none 0 0, .slice none 0 0]) ?_ 3 _ rfl; (with_reducible repeat (first | refine blk_drewN ?_ _ | refine blk_drew ?_ | refine blk_alloc ?_ _)); refine blk_put (cs := #[.slice A175_0 ((rd_T34 l0_1 x15_1).f0).length c175_0, .slice A175_1 ((rd_T34 l0_1 x15_1).f1).length c175_1, .int .i64 0, .int .i64 0, .int .i64 0, .int .i64 0, .slice none 0 0, .slice none 0 0]) ?_ 2 _ rfl; (with_reducible repeat (first | refine blk_drewN ?_ _ | refine blk_drew ?_ | refine blk_alloc ?_ _)); refine blk_put (cs := #[.slice A175_0 ((rd_T34 l0_1 x15_1).f0).length c175_0, .slice none 0 0, .int .i64 0, .int .i64 0, .int .i64 0, .int .i64 0, .slice none 0 0, .slice none 0 0]) ?_ 1 _ rfl; (with_reducible repeat (first | refine blk_drewN ?_ _ | refine blk_drew ?_ | refine blk_alloc ?_ _)); refine blk_put (cs := #[.slice none 0 0, .slice none 0 0, .int .i64 0, .int .i64 0, .int .i64 0, .int .i64 0, .slice none 0 0, .slice none 0 0]) ?_ 0 _ rfl; (with_reducible repeat (first | refine blk_drewN ?_ _ | refine blk_drew ?_ | refine blk_alloc ?_ _)); exact BK176.out) hb); have n4_ := Aside0.mk (below_step (by repeat (first | (with_reducible first | exact HB.out | apply below_alloc | apply pw_below_drewN | apply below_drew1 | refine below_set ?_ GE171.out | refine below_set ?_ GE176.out) | exact HB.out)) hb); clear HO_3; clear BK171; clear BK176; clear HB; have HO_3 := n0_; have HO179 := n1_; have BK171 := n2_; have BK176 := n3_; have HB := n4_; clear n0_ n1_ n2_ n3_ n4_; (try clear hb); (try clear hb2); (try clear hk); (try clear hi); (try clear ho0); obtain ⟨Ao17, co17, eo17⟩ := Kd.R_slice HO179.out; subst eo17))
                go_loopg [23] k1 (fun kq v23 w' => ∃ (x3_2 : List (List Int)) (x23_2 : Int), v23 = .int .i64 x23_2 ∧ Aside0 (cfg_Ahead.l1 kq x3_2 x15_1 l0_1 (l0_1.length : Int) x15_1 t177 (t177.length : Int) x23_2 a0_0 l0_1 = some r) ∧ Aside0 (kq ≤ k1) ∧ Aside0 (Kd.S (Kd.slice 3 (Kd.int .i64)) 26 w' w.heap.size (fun k_ => some k_ ≠ ((.slice Ao17 t177.length co17) : Value).ownBlock) v173 x3_2) ∧ Aside0 (Kd.R (Kd.int .i64) 3 w' w.heap.size (fun _ => True) (.slice Ao17 t177.length co17) t177) ∧ Aside0 (w'.heap[gb171]? = some (.cells #[.int .i64 a0_0, (.slice (some ad175) l0_1.length c0_1)] 24 (0, 0))) ∧ Aside0 (w'.heap[gb176]? = some (.cells #[(.slice A175_0 ((rd_T34 l0_1 x15_1).f0).length c175_0), (.slice A175_1 ((rd_T34 l0_1 x15_1).f1).length c175_1), .int .i64 ((rd_T34 l0_1 x15_1).f2.f0), .int .i64 ((rd_T34 l0_1 x15_1).f2.f1), .int .i64 ((rd_T34 l0_1 x15_1).f2.f2), .int .i64 ((rd_T34 l0_1 x15_1).f2.f3), (.slice A175_6 ((rd_T34 l0_1 x15_1).f2.f4).length c175_6), (.slice A175_7 ((rd_T34 l0_1 x15_1).f2.f5).length c175_7)] 34 (0, 0))) ∧ Aside0 (Below w.heap.size w w'))
                case atStart => exact ⟨(x3_1), (0), (by first | rfl | (simp; done) | (simp [*]; done)), H', ⟨Nat.le_refl _⟩, ⟨by (with_reducible repeat (first | apply Kd.S_alloc | apply Kd.S_drewN | apply Kd.S_drew)); exact Kd.S_mono HO_3.out (fun _ hk => hk.2)⟩, ⟨by (with_reducible repeat (first | apply Kd.R_alloc | apply Kd.R_drewN | apply Kd.R_drew)); exact HO179.out⟩, ⟨by (with_reducible repeat (first | refine blk_drewN ?_ _ | refine blk_drew ?_ | refine blk_alloc ?_ _)); exact BK171.out⟩, ⟨by (with_reducible repeat (first | refine blk_drewN ?_ _ | refine blk_drew ?_ | refine blk_alloc ?_ _)); exact BK176.out⟩, ⟨by repeat (first | (with_reducible first | exact HB.out | apply below_alloc | apply pw_below_drewN | apply below_drew1 | refine below_set ?_ GE171.out | refine below_set ?_ GE176.out) | exact HB.out)⟩⟩
                case round =>
                  clear H'
                  try clear c1
                  try clear p1
                  try clear q1
                  try clear hx1
                  try clear c2
                  try clear c2b0
                  try clear c2b1
                  try clear p2
                  try clear c3
                  try clear c3b0
                  try clear c3b1
                  try clear c9
                  try clear c9b0
                  try clear c10
                  try clear c10b0
                  try clear c11
                  try clear c11b0
                  try clear c14
                  try clear c17
                  try clear p17
                  try clear q17
                  try clear hx17
                  try clear hcz15_0
                  try clear hcz15_1
                  try clear hcz15_2
                  try clear hcz15_3
                  try clear hcz15_4
                  try clear hcz15_5
                  try clear hcz15_6
                  try clear hcz15_7
                  try clear hcz5_0
                  try clear hcz5_1
                  try clear hcz8_0
                  try clear hcz8_1
                  try clear hfz15_0
                  try clear hfz15_1
                  try clear hfz15_2
                  try clear hfz15_3
                  try clear hfz15_4
                  try clear hfz15_5
                  try clear hfz15_6
                  try clear hfz15_7
                  try clear hfz5_0
                  try clear hfz5_1
                  try clear hfz8_0
                  try clear hfz8_1
                  try clear hx175_0
                  try clear hx175_1
                  try clear hx175_2
                  try clear hx175_3
                  try clear hx175_4
                  try clear hx175_5
                  try clear hx175_6
                  try clear hx175_7
                  try clear p175
                  try clear p2
                  try clear q175
                  obtain ⟨x3_2, x23_2, rfl, HA, HK2, HO_3, HO_21, BK171, BK176, HB⟩ := hrel
                  cases gk with
                  | zero => exact absurd HA.out (by simp [cfg_Ahead.l1])
                  | succ k2 =>
                    have H := HA.out
                    clear HA
                    simp only [cfg_Ahead.l1] at H
                    by_cases c18 : x23_2 < (t177.length : Int)
                    · rw [if_pos c18] at H
                      have c18b0 : decide (x23_2 < (t177.length : Int)) = true := decide_eq_true c18
                      clear c18
                      by_cases c19 : 0 ≤ x23_2
                      · rw [if_pos c19] at H
                        have c19b0 : decide (0 ≤ x23_2) = true := decide_eq_true c19
                        clear c19
                        by_cases c20 : x23_2 < (t177.length : Int)
                        · rw [if_pos c20] at H
                          have c20b0 : decide (x23_2 < (t177.length : Int)) = true := decide_eq_true c20
                          clear c20
                          replace H := Option.bind_eq_some_iff.mp H
                          obtain ⟨t181, A210, H⟩ := H
                          replace H : (if t181 = true then (if 0 ≤ (rd t177 x23_2) then (if (rd t177 x23_2) < (x3_2.length : Int) then (if (rd_L1 x3_2 (rd t177 x23_2)).length < 17592186044416 then (cfg_Ahead.l1 k2 (x3_2.set ((rd t177 x23_2) : Int).toNat ((rd_L1 x3_2 (rd t177 x23_2)) ++ [x15_1])) x15_1 l0_1 (l0_1.length : Int) x15_1 t177 (t177.length : Int) (wrap64 (x23_2 + 1)) a0_0 l0_1) else (none)) else (none)) else (none)) else (cfg_Ahead.l1 k2 x3_2 x15_1 l0_1 (l0_1.length : Int) x15_1 t177 (t177.length : Int) (wrap64 (x23_2 + 1)) a0_0 l0_1)) = some r := H
                          have A21 := Aside0.mk A210
                          clear A210
                          by_cases c22 : t181 = true
                          · subst c22
                            have H1 : (if 0 ≤ (rd t177 x23_2) then (if (rd t177 x23_2) < (x3_2.length : Int) then (if (rd_L1 x3_2 (rd t177 x23_2)).length < 17592186044416 then (cfg_Ahead.l1 k2 (x3_2.set ((rd t177 x23_2) : Int).toNat ((rd_L1 x3_2 (rd t177 x23_2)) ++ [x15_1])) x15_1 l0_1 (l0_1.length : Int) x15_1 t177 (t177.length : Int) (wrap64 (x23_2 + 1)) a0_0 l0_1) else (none)) else (none)) else (none)) = some r := by rw [if_pos rfl] at H; exact H
                            clear H
                            have H := H1
                            clear H1
                            by_cases c23 : 0 ≤ (rd t177 x23_2)
                            · rw [if_pos c23] at H
                              have c23b0 : decide (0 ≤ (rd t177 x23_2)) = true := decide_eq_true c23
                              clear c23
                              by_cases c24 : (rd t177 x23_2) < (x3_2.length : Int)
                              · rw [if_pos c24] at H
                                have c24b0 : decide ((rd t177 x23_2) < (x3_2.length : Int)) = true := decide_eq_true c24
                                clear c24
                                by_cases c25 : (rd_L1 x3_2 (rd t177 x23_2)).length < 17592186044416
                                · rw [if_pos c25] at H
                                  have LMc25 := Aside0.mk c25
                                  clear c25
                                  obtain ⟨y183, hy183⟩ : ∃ y_ : List Int, y_ = ((rd_L1 x3_2 (rd t177 x23_2)) ++ [x15_1]) := ⟨_, rfl⟩
                                  replace H : (cfg_Ahead.l1 k2 (x3_2.set ((rd t177 x23_2) : Int).toNat y183) x15_1 l0_1 (l0_1.length : Int) x15_1 t177 (t177.length : Int) (wrap64 (x23_2 + 1)) a0_0 l0_1) = some r := by first | (rw [hy183]; with_reducible exact H) | (have H2_ := (Option.bind_some _ _).symm.trans H; rw [hy183]; with_reducible exact H2_) | (have H2_ := (Option.bind_some _ _).symm.trans H; with_reducible exact H2_) | with_reducible exact H | (rw [hy183]; exact H) | exact H
                                  have Ny183 := Aside0.mk hy183
                                  clear hy183
                                  obtain ⟨y186, hy186⟩ : ∃ y_ : List (List Int), y_ = (x3_2.set ((rd t177 x23_2) : Int).toNat y183) := ⟨_, rfl⟩
                                  replace H : (cfg_Ahead.l1 k2 y186 x15_1 l0_1 (l0_1.length : Int) x15_1 t177 (t177.length : Int) (wrap64 (x23_2 + 1)) a0_0 l0_1) = some r := by first | (rw [hy186]; with_reducible exact H) | (have H2_ := (Option.bind_some _ _).symm.trans H; rw [hy186]; with_reducible exact H2_) | (have H2_ := (Option.bind_some _ _).symm.trans H; with_reducible exact H2_) | with_reducible exact H | (rw [hy186]; exact H) | exact H
                                  have Ny186 := Aside0.mk hy186
                                  clear hy186
                                  have H' := Aside0.mk H
                                  clear H
                                  have p180 : 0 ≤ (x23_2 : Int) := of_decide_eq_true (by first | (with_reducible assumption) | assumption)
                                  have q180 : x23_2 < (t177.length : Int) := of_decide_eq_true (by first | (with_reducible assumption) | assumption)
                                  obtain ⟨ad180, e180, hx180_0⟩ := Kd.at_int (Kd.R_reads' HO_21.out).2.2 x23_2 p180 q180
                                  cases e180
                                  replace p180 := eq_true p180
                                  replace q180 := eq_true q180
                                  have hnb27 := NB171_176.out
                                  have hnc27 := NB176_171.out
                                  have hcz28_0 : wr.cell? ⟨gb171, 0, none⟩ = some (.int .i64 a0_0) := (blk_cell BK171.out 0).trans rfl
                                  have hcz28_1 : wr.cell? ⟨gb171, 1, none⟩ = some (.slice (some ad175) l0_1.length c0_1) := (blk_cell BK171.out 1).trans rfl
                                  have hfz28_0 := blk_frozen BK171.out 0
                                  have hfz28_1 := blk_frozen BK171.out 1
                                  go_wp2_with (first | ((with_reducible refine gate_callee (f := 27) rfl ?_); refine goesL_ (some 29) rfl rfl Try.func27 (by kernel_rfl) rfl #[.agg #[.int .i64 a0_0, .slice (some ad175) l0_1.length c0_1], .int .i64 (rd t177 x23_2)] rfl (by (try simp only [List.map_toArray, List.map_cons, List.map_nil]); first | done | rfl | (simp only [List.length_drop, List.length_take]; rfl)) ?_; (with_reducible refine (cfg_there.calls a0_0 _ _ l0_1 (rd t177 x23_2) true _ ?side1 ?side2 A21.out).mono ?_); (case side1 => repeat (first | exact (Kd.C_below HR0_1.out HB.out) | (with_reducible refine Kd.C_alloc ?_ _) | (with_reducible refine Kd.C_drewN ?_ _) | (with_reducible refine Kd.C_drew ?_))); (case side2 => exact HC0_1.out); rintro e w29 ⟨rfl, hb⟩; refine ⟨_, rfl, ?_⟩; have n0_ := Aside0.mk (Kd.S_below (by (with_reducible repeat (first | apply Kd.S_alloc | apply Kd.S_drewN | apply Kd.S_drew)); exact HO_3.out) hb); have n1_ := Aside0.mk (Kd.R_below (by (with_reducible repeat (first | apply Kd.R_alloc | apply Kd.R_drewN | apply Kd.R_drew)); exact HO_21.out) hb); have n2_ := Aside0.mk (blk_below (g := gb171) (o := .cells #[.int .i64 a0_0, .slice (some ad175) l0_1.length c0_1] 24 (0, 0)) (by (with_reducible repeat (first | refine blk_drewN ?_ _ | refine blk_drew ?_ | refine blk_alloc ?_ _)); exact BK171.out) hb); have n3_ := Aside0.mk (blk_below (g := gb176) (o := .cells #[.slice A175_0 ((rd_T34 l0_1 x15_1).f0).length c175_0, .slice A175_1 ((rd_T34 l0_1 x15_1).f1).length c175_1, .int .i64 ((rd_T34 l0_1 x15_1).f2.f0), .int .i64 ((rd_T34 l0_1 x15_1).f2.f1), .int .i64 ((rd_T34 l0_1 x15_1).f2.f2), .int .i64 ((rd_T34 l0_1 x15_1).f2.f3), .slice A175_6 ((rd_T34 l0_1 x15_1).f2.f4).length c175_6, .slice A175_7 ((rd_T34 l0_1 x15_1).f2.f5).length c175_7] 34 (0, 0)) (by (with_reducible repeat (first | refine blk_drewN ?_ _ | refine blk_drew ?_ | refine blk_alloc ?_ _)); exact BK176.out) hb); have n4_ := Aside0.mk (below_step (by repeat (first | (with_reducible first | exact HB.out | apply below_alloc | apply pw_below_drewN | apply below_drew1 | refine below_set ?_ GE171.out | refine below_set ?_ GE176.out) | exact HB.out)) hb); clear HO_3; clear HO_21; clear BK171; clear BK176; clear HB; have HO_3 := n0_; have HO_21 := n1_; have BK171 := n2_; have BK176 := n3_; have HB := n4_; clear n0_ n1_ n2_ n3_ n4_; (try clear hb); (try clear hb2); (try clear hk); (try clear hi); obtain ⟨Ao30, co30, eo30⟩ := Kd.S_slice HO_3.out; subst eo30; have p182 : 0 ≤ ((rd t177 x23_2) : Int) := of_decide_eq_true (by first | (with_reducible assumption) | assumption); have q182 : (rd t177 x23_2) < (x3_2.length : Int) := of_decide_eq_true (by first | (with_reducible assumption) | assumption); obtain ⟨ad182, A182_0, c182_0, e182, hx182_0, hl182_0, hi182_0⟩ := at_L1 (Kd.S_reads' HO_3.out).2.2 (rd t177 x23_2) p182 q182; cases e182; obtain ⟨ce182, hce182, hMe182, hcc182⟩ := Kd.S_get HO_3.out [] (rd t177 x23_2) p182 (by first | exact q182 | exact of_decide_eq_true (by first | (with_reducible assumption) | assumption) | (have e_ := (Kd.S_reads' HO_3.out).1; omega)); obtain ⟨ve182_0, rfl, ge182_0⟩ := hMe182; have hv182_0 := hcc182 0 _ rfl; rw [Nat.add_zero, show ((Kd.slice 3 (Kd.int .i64))).sz = 1 from rfl, Nat.mul_one] at hv182_0; replace hv182_0 := Option.some.inj (hv182_0.symm.trans hx182_0); rw [hv182_0] at ge182_0; have HL182_0 := Aside0.mk (show Kd.R (Kd.int .i64) 3 _ _ _ _ (rd_L1 x3_2 (rd t177 x23_2)) from ge182_0); clear hv182_0 ge182_0; have HX182_0 := Aside0.mk hx182_0; clear hcc182 hce182; have HR182_0 := Aside0.mk hi182_0; have HC182_0 := Aside0.mk hl182_0; clear hi182_0 hl182_0; replace p182 := eq_true p182; replace q182 := eq_true q182; obtain ⟨go31, co31, eo31, gb31, gl31, cl31, HG31⟩ := Kd.S_form HO_3.out (by have h_ : ((rd t177 x23_2) : Int) < ((x3_2.length : Int) : Int) := of_decide_eq_true (by first | (with_reducible assumption) | assumption); have h2_ : 0 ≤ ((rd t177 x23_2) : Int) := (of_decide_eq_true (by first | (with_reducible assumption) | assumption)); omega); (first | cases eo31 | (injection eo31 with ea_ en_ ec_; (first | subst ea_ | (injection ea_ with ea_; subst ea_)); subst ec_; clear en_)); have GB31 := Aside0.mk gb31; have GG31 := Aside0.mk HG31; clear gb31 gl31 HG31; (first | simp only [add_plain] at hx182_0 | skip); obtain ⟨oki31, ce31, hcl31, hM31, hcc31, _, _, hH31⟩ := Kd.S_elem HO_3.out [] ((rd t177 x23_2) : Int) (of_decide_eq_true (by first | (with_reducible assumption) | assumption)) (by have h_ : ((rd t177 x23_2) : Int) < ((x3_2.length : Int) : Int) := of_decide_eq_true (by first | (with_reducible assumption) | assumption); first | exact h_ | (have e_ := (Kd.S_reads' HO_3.out).1; omega) | simpa using h_); obtain ⟨ve31_0, rfl, ge31_0⟩ := hM31; have hv31 := hcc31 0 _ rfl; have hX31 := HX182_0.out; (try simp only [add_plain] at hX31); (try simp only [Nat.add_zero] at hv31); (try rw [show ((Kd.slice 3 (Kd.int .i64))).sz = 1 from rfl, Nat.mul_one] at hv31); replace hv31 := Option.some.inj (hv31.symm.trans hX31); subst hv31; clear hX31 hcc31 hcl31; have UU31 := Aside0.mk (show Kd.R (Kd.int .i64) 3 _ w.heap.size oki31 (.slice A182_0 (rd_L1 x3_2 (rd t177 x23_2)).length c182_0) (rd_L1 x3_2 (rd t177 x23_2)) from ge31_0); have HH31 := Aside0.mk hH31; have HN31 := Aside0.mk (Kd.S_reads' HO_3.out).1; clear hH31 ge31_0) | ((with_reducible refine gate_builtin (b := .append) (xs := #[.tmp 35, .tmp 37]) rfl ?_); at_builtin; refine Kd.R_append (Kd.int .i64) (w0 := w) w.heap.size rfl (.tmp 35) (.tmp 37) 26 3 (.int .i64 0) 8 rfl Try.underlying26 info3 rfl (by decide) (by omega) (.slice A182_0 (rd_L1 x3_2 (rd t177 x23_2)).length c182_0) (rd_L1 x3_2 (rd t177 x23_2)) x15_1 [.int .i64 x15_1] (fun k_ => oki31 k_ ∨ ((fun k_ => some k_ ≠ (.slice (some ad180) t177.length co17 : Value).ownBlock)) k_ ∧ w29.heap.size ≤ k_) (fun _ => False) rfl rfl ?aP (fun _ hk => hk.elim) ?aF ?aO ?aB ?aS ?aL ?_; (case aP => exact rfl); (case aB => exact (by repeat (first | (with_reducible first | exact HB.out | apply below_alloc | apply pw_below_drewN | apply below_drew1 | refine below_set ?_ GE171.out | refine below_set ?_ GE176.out) | exact HB.out))); (case aF => exact (fun k_ hk => .inr ⟨Kd.fresh' (Kd.R_lt (by (with_reducible repeat (first | apply Kd.R_alloc | apply Kd.R_drewN | apply Kd.R_drew)); exact HO_21.out)) k_ hk, hk⟩)); (case aO => exact (by (with_reducible repeat (first | apply Kd.R_alloc | apply Kd.R_drewN | apply Kd.R_drew)); exact Kd.R_mono UU31.out (fun _ hk => .inl hk))); (case aS => exact (below_size (by repeat (first | (with_reducible first | exact HB.out | apply below_alloc | apply pw_below_drewN | apply below_drew1 | refine below_set ?_ GE171.out | refine below_set ?_ GE176.out) | exact HB.out)))); (case aL => have := LMc25.out; omega); intro v184 w32 ho hb hg hat; rw [← Ny183.out] at ho; have n0_ := Aside0.mk (Kd.R_grown2 (by (with_reducible repeat (first | apply Kd.R_alloc | apply Kd.R_drewN | apply Kd.R_drew)); exact HO_21.out) rfl hg (fun k_ e_ => (HL182_0.out.1 k_ e_).1)); have n1_ := Aside0.mk (blk_grown (g := gb171) (o := .cells #[.int .i64 a0_0, .slice (some ad175) l0_1.length c0_1] 24 (0, 0)) (by (with_reducible repeat (first | refine blk_drewN ?_ _ | refine blk_drew ?_ | refine blk_alloc ?_ _)); exact BK171.out) hg (Kd.R_ne HL182_0.out BK171.out (by decide))); have n2_ := Aside0.mk (blk_grown (g := gb176) (o := .cells #[.slice A175_0 ((rd_T34 l0_1 x15_1).f0).length c175_0, .slice A175_1 ((rd_T34 l0_1 x15_1).f1).length c175_1, .int .i64 ((rd_T34 l0_1 x15_1).f2.f0), .int .i64 ((rd_T34 l0_1 x15_1).f2.f1), .int .i64 ((rd_T34 l0_1 x15_1).f2.f2), .int .i64 ((rd_T34 l0_1 x15_1).f2.f3), .slice A175_6 ((rd_T34 l0_1 x15_1).f2.f4).length c175_6, .slice A175_7 ((rd_T34 l0_1 x15_1).f2.f5).length c175_7] 34 (0, 0)) (by (with_reducible repeat (first | refine blk_drewN ?_ _ | refine blk_drew ?_ | refine blk_alloc ?_ _)); exact BK176.out) hg (Kd.R_ne HL182_0.out BK176.out (by decide))); have n3_ := Aside0.mk (hb); have n4_ := Aside0.mk (Kd.H_grown (Kd.H_widen (by repeat (first | exact HH31.out | refine Kd.H_alloc ?_ _ | refine Kd.H_drewN ?_ _ | refine Kd.H_drew ?_))) hg (fun k_ e_ => .inl (UU31.out.1 k_ e_))); have n5_ := Aside0.mk (ho); clear HO_21; clear BK171; clear BK176; clear HB; clear HH31; clear HO_3; clear UU31; clear HL182_0; have HO_21 := n0_; have BK171 := n1_; have BK176 := n2_; have HB := n3_; have HH31 := n4_; have HO185 := n5_; clear n0_ n1_ n2_ n3_ n4_ n5_; clear ho hb hg hat; have p26 : 0 ≤ ((rd t177 x23_2) : Int) := of_decide_eq_true (by first | (with_reducible assumption) | assumption); have q26 : ((rd t177 x23_2) : Int) < ((x3_2.length : Int) : Int) := of_decide_eq_true (by first | (with_reducible assumption) | assumption); replace p26 := eq_true p26; replace q26 := eq_true q26; obtain ⟨Ao35, co35, eo35⟩ := Kd.R_slice HO185.out; subst eo35; obtain ⟨_, _, hraw33, _, _, hcc33, _⟩ := Kd.H_raw HH31.out (of_decide_eq_true (by first | (with_reducible assumption) | assumption)) (by have h_ : ((rd t177 x23_2) : Int) < ((x3_2.length : Int) : Int) := of_decide_eq_true (by first | (with_reducible assumption) | assumption); first | exact h_ | (have e_ := (HN31.out); omega) | simpa using h_); obtain ⟨_, hfr33⟩ := Kd.H_at HH31.out (of_decide_eq_true (by first | (with_reducible assumption) | assumption)) (by have h_ : ((rd t177 x23_2) : Int) < ((x3_2.length : Int) : Int) := of_decide_eq_true (by first | (with_reducible assumption) | assumption); first | exact h_ | (have e_ := (HN31.out); omega) | simpa using h_); have hx33_0 := hcc33 0 _ rfl; have hf33_0 := hfr33 0; (try simp only [Nat.add_zero] at hx33_0 hf33_0); (try rw [show ((Kd.slice 3 (Kd.int .i64))).sz = 1 from rfl, Nat.mul_one] at hx33_0); (try rw [show ((Kd.slice 3 (Kd.int .i64))).sz = 1 from rfl, Nat.mul_one] at hf33_0); have HP33 := Kd.S_seg0 HH31.out (of_decide_eq_true (by first | (with_reducible assumption) | assumption)) (by have h_ : ((rd t177 x23_2) : Int) < ((x3_2.length : Int) : Int) := of_decide_eq_true (by first | (with_reducible assumption) | assumption); first | exact h_ | (have e_ := (HN31.out); omega) | simpa using h_) (seg := [.slice Ao35 y183.length co35]) (j := 0) (show 1 ≤ 1 from by decide) (x' := y183) (Kd.M_row HO185.out) (fun _ hk => hk); (try simp only [show ((Kd.slice 3 (Kd.int .i64))).sz = 1 from rfl, Nat.mul_one, Nat.add_zero] at HP33); clear hcc33 hfr33) | ((with_reducible refine gate_store (t := 26) (p := 39) rfl ?_); refine store_event (t := 26) (p := 39) (v := ?vo_w34) (w1 := (w32.setCell ⟨go31, ((rd t177 x23_2) : Int).toNat, none⟩ (.slice Ao35 y183.length co35))) ?hg ?ho ?hn ?hr ?_; (case ho => rfl); (case hg => rfl); (case hn => rfl); (case hr => first | (go_simp; done) | (go_simp; rfl)); intro w34 hw; have hg : w32.grownBy w34 (some go31) := (by rw [hw]; exact HP33.2); have hp_ : Kd.S (Kd.slice 3 (Kd.int .i64)) 26 w34 w.heap.size (fun k_ => some k_ ≠ (.slice (some ad180) t177.length co17 : Value).ownBlock) (.slice (some ⟨go31, 0, none⟩) x3_2.length co30) y186 := (by rw [hw, Ny186.out]; exact HP33.1); clear HP33; have n0_ := Aside0.mk (Kd.R_over' (v := (.slice (some ⟨go31, 0, none⟩) x3_2.length co30)) (by (with_reducible repeat (first | apply Kd.R_alloc | apply Kd.R_drewN | apply Kd.R_drew)); exact HO_21.out) (Kd.R_typed hraw33) (by decide) hg); have n1_ := Aside0.mk (blk_grown (g := gb171) (o := .cells #[.int .i64 a0_0, .slice (some ad175) l0_1.length c0_1] 24 (0, 0)) (by (with_reducible repeat (first | refine blk_drewN ?_ _ | refine blk_drew ?_ | refine blk_alloc ?_ _)); exact BK171.out) hg (Kd.R_ne hraw33 BK171.out (by decide))); have n2_ := Aside0.mk (blk_grown (g := gb176) (o := .cells #[.slice A175_0 ((rd_T34 l0_1 x15_1).f0).length c175_0, .slice A175_1 ((rd_T34 l0_1 x15_1).f1).length c175_1, .int .i64 ((rd_T34 l0_1 x15_1).f2.f0), .int .i64 ((rd_T34 l0_1 x15_1).f2.f1), .int .i64 ((rd_T34 l0_1 x15_1).f2.f2), .int .i64 ((rd_T34 l0_1 x15_1).f2.f3), .slice A175_6 ((rd_T34 l0_1 x15_1).f2.f4).length c175_6, .slice A175_7 ((rd_T34 l0_1 x15_1).f2.f5).length c175_7] 34 (0, 0)) (by (with_reducible repeat (first | refine blk_drewN ?_ _ | refine blk_drew ?_ | refine blk_alloc ?_ _)); exact BK176.out) hg (Kd.R_ne hraw33 BK176.out (by decide))); have n3_ := Aside0.mk ((by rw [hw]; exact below_set HB.out GB31.out : Below w.heap.size w w34)); have n4_ := Aside0.mk (hp_); clear HO_21; clear BK171; clear BK176; clear HB; clear HO185; clear HH31; have HO_21 := n0_; have BK171 := n1_; have BK176 := n2_; have HB := n3_; have HO_3 := n4_; clear n0_ n1_ n2_ n3_ n4_; clear hg hw hp_ hraw33))
                                  go_roundg k2
                                  case measure => have := HK1.out; have := HK2.out; omega
                                  case rel => exact ⟨(y186), (wrap64 (x23_2 + 1)), (by first | rfl | (simp; done) | (simp [*]; done)), H', ⟨by have := HK1.out; have := HK2.out; omega⟩, ⟨by (with_reducible repeat (first | apply Kd.S_alloc | apply Kd.S_drewN | apply Kd.S_drew)); exact HO_3.out⟩, ⟨by (with_reducible repeat (first | apply Kd.R_alloc | apply Kd.R_drewN | apply Kd.R_drew)); exact HO_21.out⟩, ⟨by (with_reducible repeat (first | refine blk_drewN ?_ _ | refine blk_drew ?_ | refine blk_alloc ?_ _)); exact BK171.out⟩, ⟨by (with_reducible repeat (first | refine blk_drewN ?_ _ | refine blk_drew ?_ | refine blk_alloc ?_ _)); exact BK176.out⟩, ⟨by repeat (first | (with_reducible first | exact HB.out | apply below_alloc | apply pw_below_drewN | apply below_drew1 | refine below_set ?_ GE171.out | refine below_set ?_ GE176.out) | exact HB.out)⟩⟩
                                · rw [if_neg c25] at H
                                  exact absurd H (by simp)
                              · rw [if_neg c24] at H
                                exact absurd H (by simp)
                            · rw [if_neg c23] at H
                              exact absurd H (by simp)
                          · replace c22 := Bool.eq_false_iff.mpr c22
                            subst c22
                            have H1 : (cfg_Ahead.l1 k2 x3_2 x15_1 l0_1 (l0_1.length : Int) x15_1 t177 (t177.length : Int) (wrap64 (x23_2 + 1)) a0_0 l0_1) = some r := by rw [if_neg (show ¬ (false = true) by decide)] at H; exact H
                            clear H
                            have H := H1
                            clear H1
                            have H' := Aside0.mk H
                            clear H
                            have p180 : 0 ≤ (x23_2 : Int) := of_decide_eq_true (by first | (with_reducible assumption) | assumption)
                            have q180 : x23_2 < (t177.length : Int) := of_decide_eq_true (by first | (with_reducible assumption) | assumption)
                            obtain ⟨ad180, e180, hx180_0⟩ := Kd.at_int (Kd.R_reads' HO_21.out).2.2 x23_2 p180 q180
                            cases e180
                            replace p180 := eq_true p180
                            replace q180 := eq_true q180
                            have hnb36 := NB171_176.out
                            have hnc36 := NB176_171.out
                            have hcz37_0 : wr.cell? ⟨gb171, 0, none⟩ = some (.int .i64 a0_0) := (blk_cell BK171.out 0).trans rfl
                            have hcz37_1 : wr.cell? ⟨gb171, 1, none⟩ = some (.slice (some ad175) l0_1.length c0_1) := (blk_cell BK171.out 1).trans rfl
                            have hfz37_0 := blk_frozen BK171.out 0
                            have hfz37_1 := blk_frozen BK171.out 1
                            go_wp2_with (first | ((with_reducible refine gate_callee (f := 27) rfl ?_); refine goesL_ (some 29) rfl rfl Try.func27 (by kernel_rfl) rfl #[.agg #[.int .i64 a0_0, .slice (some ad175) l0_1.length c0_1], .int .i64 (rd t177 x23_2)] rfl (by (try simp only [List.map_toArray, List.map_cons, List.map_nil]); first | done | rfl | (simp only [List.length_drop, List.length_take]; rfl)) ?_; (with_reducible refine (cfg_there.calls a0_0 _ _ l0_1 (rd t177 x23_2) false _ ?side1 ?side2 A21.out).mono ?_); (case side1 => repeat (first | exact (Kd.C_below HR0_1.out HB.out) | (with_reducible refine Kd.C_alloc ?_ _) | (with_reducible refine Kd.C_drewN ?_ _) | (with_reducible refine Kd.C_drew ?_))); (case side2 => exact HC0_1.out); rintro e w38 ⟨rfl, hb⟩; refine ⟨_, rfl, ?_⟩; have n0_ := Aside0.mk (Kd.S_below (by (with_reducible repeat (first | apply Kd.S_alloc | apply Kd.S_drewN | apply Kd.S_drew)); exact HO_3.out) hb); have n1_ := Aside0.mk (Kd.R_below (by (with_reducible repeat (first | apply Kd.R_alloc | apply Kd.R_drewN | apply Kd.R_drew)); exact HO_21.out) hb); have n2_ := Aside0.mk (blk_below (g := gb171) (o := .cells #[.int .i64 a0_0, .slice (some ad175) l0_1.length c0_1] 24 (0, 0)) (by (with_reducible repeat (first | refine blk_drewN ?_ _ | refine blk_drew ?_ | refine blk_alloc ?_ _)); exact BK171.out) hb); have n3_ := Aside0.mk (blk_below (g := gb176) (o := .cells #[.slice A175_0 ((rd_T34 l0_1 x15_1).f0).length c175_0, .slice A175_1 ((rd_T34 l0_1 x15_1).f1).length c175_1, .int .i64 ((rd_T34 l0_1 x15_1).f2.f0), .int .i64 ((rd_T34 l0_1 x15_1).f2.f1), .int .i64 ((rd_T34 l0_1 x15_1).f2.f2), .int .i64 ((rd_T34 l0_1 x15_1).f2.f3), .slice A175_6 ((rd_T34 l0_1 x15_1).f2.f4).length c175_6, .slice A175_7 ((rd_T34 l0_1 x15_1).f2.f5).length c175_7] 34 (0, 0)) (by (with_reducible repeat (first | refine blk_drewN ?_ _ | refine blk_drew ?_ | refine blk_alloc ?_ _)); exact BK176.out) hb); have n4_ := Aside0.mk (below_step (by repeat (first | (with_reducible first | exact HB.out | apply below_alloc | apply pw_below_drewN | apply below_drew1 | refine below_set ?_ GE171.out | refine below_set ?_ GE176.out) | exact HB.out)) hb); clear HO_3; clear HO_21; clear BK171; clear BK176; clear HB; have HO_3 := n0_; have HO_21 := n1_; have BK171 := n2_; have BK176 := n3_; have HB := n4_; clear n0_ n1_ n2_ n3_ n4_; (try clear hb); (try clear hb2); (try clear hk); (try clear hi)))
                            go_roundg k2
                            case measure => have := HK1.out; have := HK2.out; omega
                            case rel => exact ⟨(x3_2), (wrap64 (x23_2 + 1)), (by first | rfl | (simp; done) | (simp [*]; done)), H', ⟨by have := HK1.out; have := HK2.out; omega⟩, ⟨by (with_reducible repeat (first | apply Kd.S_alloc | apply Kd.S_drewN | apply Kd.S_drew)); exact HO_3.out⟩, ⟨by (with_reducible repeat (first | apply Kd.R_alloc | apply Kd.R_drewN | apply Kd.R_drew)); exact HO_21.out⟩, ⟨by (with_reducible repeat (first | refine blk_drewN ?_ _ | refine blk_drew ?_ | refine blk_alloc ?_ _)); exact BK171.out⟩, ⟨by (with_reducible repeat (first | refine blk_drewN ?_ _ | refine blk_drew ?_ | refine blk_alloc ?_ _)); exact BK176.out⟩, ⟨by repeat (first | (with_reducible first | exact HB.out | apply below_alloc | apply pw_below_drewN | apply below_drew1 | refine below_set ?_ GE171.out | refine below_set ?_ GE176.out) | exact HB.out)⟩⟩
                        · rw [if_neg c20] at H
                          exact absurd H (by simp)
                      · rw [if_neg c19] at H
                        exact absurd H (by simp)
                    · rw [if_neg c18] at H
                      have c18b0 : decide (x23_2 < (t177.length : Int)) = false := decide_eq_false c18
                      clear c18
                      have H' := Aside0.mk H
                      clear H
                      go_wp2
                      go_roundg k2
                      case measure => have := HK1.out; have := HK2.out; omega
                      case rel => exact ⟨(x3_2), (wrap64 (x15_1 + 1)), (by first | rfl | (simp; done) | (simp [*]; done)), H', ⟨by have := HK1.out; have := HK2.out; omega⟩, ⟨by (with_reducible repeat (first | apply Kd.S_alloc | apply Kd.S_drewN | apply Kd.S_drew)); exact Kd.S_mono HO_3.out (fun _ hk => trivial)⟩, ⟨by (with_reducible repeat (first | refine blk_drewN ?_ _ | refine blk_drew ?_ | refine blk_alloc ?_ _)); exact BK171.out⟩, ⟨by repeat (first | (with_reducible first | exact HB.out | apply below_alloc | apply pw_below_drewN | apply below_drew1 | refine below_set ?_ GE171.out | refine below_set ?_ GE176.out) | exact HB.out)⟩⟩
              · rw [if_neg c11] at H
                exact absurd H (by simp)
            · rw [if_neg c10] at H
              exact absurd H (by simp)
          · rw [if_neg c9] at H
            have c9b0 : decide (x15_1 < (l0_1.length : Int)) = false := decide_eq_false c9
            clear c9
            obtain rfl := Option.some.inj H
            go_wp2
            go_ret
            exact ⟨_, by first | rfl | (simp [errW_none, errW_some] <;> rfl) | (simp [*, errW_none, errW_some] <;> rfl), by (with_reducible repeat (first | apply Kd.S_alloc | apply Kd.S_drewN | apply Kd.S_drew)); exact HO_3.out, by repeat (first | (with_reducible first | exact HB.out | apply below_alloc | apply pw_below_drewN | apply below_drew1 | refine below_set ?_ GE171.out) | exact HB.out)⟩
    · rw [if_neg c3] at H
      exact absurd H (by simp)
  · rw [if_neg c2] at H
    exact absurd H (by simp)

/-! ### slices_Clone_int_int: function 29 -/
def slices_Clone_int_int.f (l0 : List Int) : Option (List Int) := (some (([] : List Int) : List Int)).bind fun y187 => (if y187.length + l0.length < 17592186044416 then (some (y187 ++ l0)) else (none))
set_option maxHeartbeats 8000000 in
set_option maxRecDepth 100000 in
theorem slices_Clone_int_int.calls (A0 : Option Addr) (c0 : Nat) (l0 : List Int) (r : List Int) (w : World) (hr0 : Kd.C (Kd.int .i64) w A0 l0.length l0) (hc0 : l0.length ≤ c0) (h : slices_Clone_int_int.f l0 = some r) :
    Calls Try.prog 29 #[.slice A0 l0.length c0] w fun e w' => ∃ v0_ : Value, e = .returned (v0_) ∧ Kd.R (Kd.int .i64) 3 w' w.heap.size (fun _ => True) v0_ r ∧ Below w.heap.size w w' := by
  have HR0 := Aside0.mk hr0
  have HC0 := Aside0.mk hc0
  clear hr0 hc0
  have HB := Aside0.mk (Below.refl w.heap.size w)
  obtain rfl | ⟨adN, rfl⟩ : A0 = none ∨ ∃ a_, A0 = some a_ := by cases A0 <;> simp
  · have hz : l0 = [] := by
      by_cases hz : l0.length = 0
      · exact List.length_eq_zero_iff.1 hz
      · obtain ⟨ad_, e_, _⟩ := Kd.at_int HR0.out 0 (by omega) (by omega)
        cases e_
    subst hz
    obtain rfl : r = [] := by
      revert h
      unfold slices_Clone_int_int.f
      intro h
      simp only [Option.bind_some] at h
      split at h <;> first | exact (Option.some.inj h).symm | cases h | skip
    have q_ := (show ∀ (w : World) (a : Option Addr) (n c n' c' : Nat), (binOp .eql 26 (.slice a n c) (.slice none n' c')).run Try.prog w = .ok (.bool a.isNone) w from fun w a n c n' c' => Lib.run_eql_slice_nil w _ _ a n c n' c' Try.underlying26)
    go_enter Try.func29, Try.ntmps29
    go_wp2
    go_ret
    exact ⟨_, rfl, Kd.R_nil _ _ _ _ _, HB.out⟩
  have q_ := (show ∀ (w : World) (a : Option Addr) (n c n' c' : Nat), (binOp .eql 26 (.slice a n c) (.slice none n' c')).run Try.prog w = .ok (.bool a.isNone) w from fun w a n c n' c' => Lib.run_eql_slice_nil w _ _ a n c n' c' Try.underlying26)
  have H : ((some (([] : List Int) : List Int)).bind fun y187 => (if y187.length + l0.length < 17592186044416 then (some (y187 ++ l0)) else (none))) = some r := h
  clear h
  obtain ⟨y187, hy187⟩ : ∃ y_ : List Int, y_ = (([] : List Int)) := ⟨_, rfl⟩
  replace H : (if y187.length + l0.length < 17592186044416 then (some (y187 ++ l0)) else (none)) = some r := by first | (rw [hy187]; with_reducible exact H) | (have H2_ := (Option.bind_some _ _).symm.trans H; rw [hy187]; with_reducible exact H2_) | (have H2_ := (Option.bind_some _ _).symm.trans H; with_reducible exact H2_) | with_reducible exact H | (rw [hy187]; exact H) | exact H
  have Ny187 := Aside0.mk hy187
  clear hy187
  by_cases c2 : y187.length + l0.length < 17592186044416
  · rw [if_pos c2] at H
    have LMc2 := Aside0.mk c2
    clear c2
    obtain ⟨y190, hy190⟩ : ∃ y_ : List Int, y_ = (y187 ++ l0) := ⟨_, rfl⟩
    replace H : (some y190) = some r := by first | (rw [hy190]; with_reducible exact H) | (have H2_ := (Option.bind_some _ _).symm.trans H; rw [hy190]; with_reducible exact H2_) | (have H2_ := (Option.bind_some _ _).symm.trans H; with_reducible exact H2_) | with_reducible exact H | (rw [hy190]; exact H) | exact H
    have Ny190 := Aside0.mk hy190
    clear hy190
    obtain rfl := Option.some.inj H
    go_enter Try.func29, Try.ntmps29
    go_wp2_with (first | ((with_reducible refine gate_dst (N := 5) rfl ?_); refine Kd.R_lit (Kd.int .i64) _ 3 ?hg (N := 5) ?hd (xs := ([] : List Int)) (inner := []) (ok := fun _ => True) (okp := fun _ => True) ?hr ?hp (fun _ hk => hk) trivial (Below.refl _ _) (Nat.le_refl _) (by simp) ?_; (case hd => rfl); (case hg => rfl); (case hr => first | (go_simp; done) | (go_simp; rfl)); (case hp => exact (Reps.none _ _)); intro v188 w3 ho4 hb hg_ hnew_; clear hg_ hnew_; (first | rw [← Ny187.out] at ho4 | (simp only [Int.reduceToNat] at ho4; rw [← Ny187.out] at ho4)); have n0_ := Aside0.mk (Kd.R_lower ho4 (below_size (by repeat (first | (with_reducible first | exact HB.out | apply below_alloc | apply pw_below_drewN | apply below_drew1) | exact HB.out)))); have n1_ := Aside0.mk (below_step (by repeat (first | (with_reducible first | exact HB.out | apply below_alloc | apply pw_below_drewN | apply below_drew1) | exact HB.out)) hb); clear HB; have HO189 := n0_; have HB := n1_; clear n0_ n1_; clear hb ho4) | ((with_reducible refine gate_builtin (b := .append) (xs := #[.tmp 5, .tmp 6]) rfl ?_); at_builtin; refine Kd.R_append_rows (Kd.int .i64) (w0 := w) w.heap.size rfl (.tmp 5) (.tmp 6) 26 3 (.int .i64 0) 8 rfl Try.underlying26 info3 rfl (by decide) (by omega) v188 y187 l0 _ _ _ (fun _ => True) (fun _ => False) rfl rfl ?aO ?aR (fun _ _ h => h) (fun _ h => h.elim) ?aF ?aB ?aS ?aL ?_; (case aR => repeat (first | exact (Kd.C_below HR0.out HB.out) | (with_reducible refine Kd.C_alloc ?_ _) | (with_reducible refine Kd.C_drewN ?_ _) | (with_reducible refine Kd.C_drew ?_))); (case aB => exact (by repeat (first | (with_reducible first | exact HB.out | apply below_alloc | apply pw_below_drewN | apply below_drew1) | exact HB.out))); (case aF => exact (fun _ _ => trivial)); (case aO => exact (by (with_reducible repeat (first | apply Kd.R_alloc | apply Kd.R_drewN | apply Kd.R_drew)); exact HO189.out)); (case aS => exact (below_size (by repeat (first | (with_reducible first | exact HB.out | apply below_alloc | apply pw_below_drewN | apply below_drew1) | exact HB.out)))); (case aL => have := LMc2.out; omega); intro v191 w5 ho hb hg hat; rw [← Ny190.out] at ho; have n0_ := Aside0.mk (hb); have n1_ := Aside0.mk (ho); clear HB; clear HO189; have HB := n0_; have HO192 := n1_; clear n0_ n1_; clear ho hb hg hat))
    go_ret
    exact ⟨_, by first | rfl | (simp [errW_none, errW_some] <;> rfl) | (simp [*, errW_none, errW_some] <;> rfl), by (with_reducible repeat (first | apply Kd.R_alloc | apply Kd.R_drewN | apply Kd.R_drew)); exact HO192.out, by repeat (first | (with_reducible first | exact HB.out | apply below_alloc | apply pw_below_drewN | apply below_drew1) | exact HB.out)⟩
  · rw [if_neg c2] at H
    exact absurd H (by simp)

/-! ### cfg_Targets: function 19 -/
open Go.Shelf Iter
set_option linter.unusedVariables false
set_option linter.unusedSimpArgs false
attribute [local go_sem] Oper.semAt_some
def tgR (K tt els : Int) (l4 l5 : List Int) : List S46 := (if K = 0 ∨ K = 1 then [⟨tt, l4⟩] else []) ++ (if K = 1 then [⟨els, l5⟩] else [])
theorem tg_step {K tt els : Int} {A4 : Option Addr} {c4 : Nat} {A5 : Option Addr} {c5 : Nat} {l4 l5 : List Int} {pre : List TgV} {x : TgV} (h : (pre ++ [x]) <+: tgs K tt els A4 l4.length c4 A5 l5.length c5) :
    ∃ l : List Int, x.n = l.length ∧ (tgR K tt els l4 l5).take (pre.length + 1) = (tgR K tt els l4 l5).take pre.length ++ [⟨x.tt, l⟩] ∧ ((x.A = A4 ∧ l = l4 ∧ x.c = c4) ∨ (x.A = A5 ∧ l = l5 ∧ x.c = c5)) ∧ pre.length < 2 := by
  by_cases h0 : K = 0
  · subst h0
    have h' : (pre ++ [x]) <+: [⟨tt, A4, l4.length, c4⟩] := by simpa [tgs] using h
    cases pre with
    | nil =>
      have e : x = ⟨tt, A4, l4.length, c4⟩ := by simpa [List.prefix_cons_iff] using h'
      subst e
      exact ⟨l4, rfl, by simp [tgR], .inl ⟨rfl, rfl, rfl⟩, by simp⟩
    | cons y p => have := h'.length_le; simp at this
  · by_cases h1 : K = 1
    · subst h1
      have h' : (pre ++ [x]) <+: [⟨tt, A4, l4.length, c4⟩, ⟨els, A5, l5.length, c5⟩] := by simpa [tgs] using h
      match pre, h' with
      | [], h' =>
        have e : x = ⟨tt, A4, l4.length, c4⟩ := (List.cons_prefix_cons.1 h').1
        subst e
        exact ⟨l4, rfl, by simp [tgR], .inl ⟨rfl, rfl, rfl⟩, by simp⟩
      | [y], h' =>
        have e : x = ⟨els, A5, l5.length, c5⟩ := (List.cons_prefix_cons.1 (List.cons_prefix_cons.1 h').2).1
        subst e
        exact ⟨l5, rfl, by simp [tgR], .inr ⟨rfl, rfl, rfl⟩, by simp⟩
      | y :: z :: p, h' => have := h'.length_le; simp at this
    · have := h.length_le
      simp [tgs, h0, h1] at this
theorem tgR_all {K tt els : Int} {A4 : Option Addr} {c4 : Nat} {A5 : Option Addr} {c5 : Nat} {l4 l5 : List Int} : (tgR K tt els l4 l5).take (tgs K tt els A4 l4.length c4 A5 l5.length c5).length = tgR K tt els l4 l5 := by
  by_cases h0 : K = 0 <;> by_cases h1 : K = 1 <;> simp [tgR, tgs, h0, h1]
def cfg_Targets.f (a0_0 : Int) (a0_1 : Int) (a0_2 : Int) (a0_3 : Int) (l0_4 : List Int) (l0_5 : List Int) : Option (List (S46)) := if l0_4.length < 17592186044416 ∧ l0_5.length < 17592186044416 then some (tgR a0_0 a0_2 a0_3 l0_4 l0_5) else none
set_option maxRecDepth 100000 in
set_option maxHeartbeats 8000000 in
theorem cfg_Targets.calls (a0_0 : Int) (a0_1 : Int) (a0_2 : Int) (a0_3 : Int) (A0_4 : Option Addr) (c0_4 : Nat) (l0_4 : List Int) (A0_5 : Option Addr) (c0_5 : Nat) (l0_5 : List Int) (r : List (S46)) (w : World) (hr0_4 : Kd.C (Kd.int .i64) w A0_4 l0_4.length l0_4) (hc0_4 : l0_4.length ≤ c0_4) (hr0_5 : Kd.C (Kd.int .i64) w A0_5 l0_5.length l0_5) (hc0_5 : l0_5.length ≤ c0_5) (h : cfg_Targets.f a0_0 a0_1 a0_2 a0_3 l0_4 l0_5 = some r) :
    Calls Try.prog 19 #[.agg #[.int .i64 a0_0, .int .i64 a0_1, .int .i64 a0_2, .int .i64 a0_3, .slice A0_4 l0_4.length c0_4, .slice A0_5 l0_5.length c0_5]] w fun e w' => ∃ v0_ : Value, e = .returned (v0_) ∧ Kd.R k46 46 w' w.heap.size (fun _ => True) v0_ r ∧ Below w.heap.size w w' := by
  unfold cfg_Targets.f at h
  split at h
  rotate_left
  · cases h
  rename_i hll
  obtain ⟨hl4, hl5⟩ := hll
  have hr := Option.some.inj h
  have hr' := Aside0.mk hr
  have hl4' := Aside0.mk hl4
  have hl5' := Aside0.mk hl5
  clear h hr hl4 hl5
  have hu42 := Try.underlying42
  refine (callsIn_wide (n := 6)).1 ?_
  refine callsIn_of_wp_marks Try.func19 rfl trivial ?_ rfl
  simp only [Try.ntmps19, List.size_toArray, List.length_cons, List.length_nil, Nat.reduceAdd, Nat.reduceSub, Array.replicate_succ, Array.replicate_zero, List.push_toArray, List.append_toArray, List.nil_append, List.cons_append]
  gi_wp2_with (refine ⟨trivial, ?_⟩; gi_at_call 28; refine (targets_in Fence.wide 5 trivial rfl _ _ _ _ _ _ _ _ _ _ _).mono ?_; rintro e w' ⟨rfl, rfl⟩)
  obtain ⟨W0, hW0⟩ : ∃ W0, (((w.alloc (.cells #[.int .i64 a0_0, .int .i64 a0_1, .int .i64 a0_2, .int .i64 a0_3, .slice A0_4 l0_4.length c0_4, .slice A0_5 l0_5.length c0_5] 32)).alloc (.cells #[.slice none 0 0] 42)).alloc (.cells #[.int .i64 a0_0, .int .i64 a0_1, .int .i64 a0_2, .int .i64 a0_3, .slice A0_4 l0_4.length c0_4, .slice A0_5 l0_5.length c0_5] 32)) = W0 := ⟨_, rfl⟩
  have hB0 : Below w.heap.size w W0 := by rw [← hW0]; exact below_alloc (below_alloc (below_alloc (Below.refl _ _) _) _) _
  have hs0 : W0.heap.size = w.heap.size + 3 := by rw [← hW0]; simp
  have hbO : Boxed W0 (w.heap.size + 1) 42 (.slice none 0 0) := by
    have := (Boxed.new (w.alloc (.cells #[.int .i64 a0_0, .int .i64 a0_1, .int .i64 a0_2, .int .i64 a0_3, .slice A0_4 l0_4.length c0_4, .slice A0_5 l0_5.length c0_5] 32)) 42 (.slice none 0 0)).alloc (.cells #[.int .i64 a0_0, .int .i64 a0_1, .int .i64 a0_2, .int .i64 a0_3, .slice A0_4 l0_4.length c0_4, .slice A0_5 l0_5.length c0_5] 32)
    rw [hW0, World.size_alloc] at this; exact this
  have hbE : W0.heap[w.heap.size + 1 + 1]? = some (.cells #[.int .i64 a0_0, .int .i64 a0_1, .int .i64 a0_2, .int .i64 a0_3, .slice A0_4 l0_4.length c0_4, .slice A0_5 l0_5.length c0_5] 32 (0, 0)) := by
    have := heap_alloc_new ((w.alloc (.cells #[.int .i64 a0_0, .int .i64 a0_1, .int .i64 a0_2, .int .i64 a0_3, .slice A0_4 l0_4.length c0_4, .slice A0_5 l0_5.length c0_5] 32)).alloc (.cells #[.slice none 0 0] 42)) (.cells #[.int .i64 a0_0, .int .i64 a0_1, .int .i64 a0_2, .int .i64 a0_3, .slice A0_4 l0_4.length c0_4, .slice A0_5 l0_5.length c0_5] 32)
    rw [hW0, World.size_alloc, World.size_alloc] at this; exact this
  rw [hW0]
  clear hW0
  refine wpIn_range (F := Fence.wide) (n := 6) (α := TgV) rfl (by decide) (gf := 33) (lb := #[.pointer (some ⟨w.heap.size + 1 + 1, 0, none⟩)]) rfl trivial (enters_of Try.func33 (by kernel_rfl) rfl)
    (targets1_gives Fence.wide 5 trivial rfl (by decide) (w.heap.size + 1 + 1) a0_0 a0_1 a0_2 a0_3 A0_4 l0_4.length c0_4 A0_5 l0_5.length c0_5 W0 (by omega) hbE) (Below.refl _ _) (fun _ => rfl)
    (fun pre T W => T (w.heap.size + 1) ∧ ∃ v, Boxed W (w.heap.size + 1) 42 v ∧ Kd.R k46 46 W w.heap.size (fun k => T k ∧ k ≠ w.heap.size + 1) v ((tgR a0_0 a0_2 a0_3 l0_4 l0_5).take pre.length))
    ?stable (fun k => k = w.heap.size + 1) ?start ?own ?reads ?round ?done
  case stable =>
    rintro s T A B ⟨hT, v, hv, hR⟩ hh
    exact ⟨hT, v, (hh.block _ hT).trans hv, hh.row hR (fun k hk => hk.1)⟩
  case start => exact ⟨rfl, _, hbO, Kd.R_nil _ _ _ _ _⟩
  case own => rintro k rfl; exact ⟨by omega, by omega⟩
  case reads => rintro k rfl; omega
  case round =>
    rintro pre ⟨xt, xA, xn, xc⟩ T W ⟨hT, v, hv, hR⟩ hlen hsz hTs hkp
    obtain ⟨l, hxn, htake, hor, hlt⟩ := tg_step hlen
    have hxn : xn = l.length := hxn
    subst hxn
    have htk := Aside0.mk htake
    obtain ⟨out, hout⟩ : ∃ out, (tgR a0_0 a0_2 a0_3 l0_4 l0_5).take pre.length = out := ⟨_, rfl⟩
    have hol : out.length < 2 := by rw [← hout, List.length_take]; omega
    rw [hout] at hR
    have hout' := Aside0.mk hout
    clear hout htake hlen
    have hBW : Below w.heap.size w W := hB0.trans (Keep.below hkp (by omega) (fun k hk => by omega))
    have hsz2 : w.heap.size + 1 < W.heap.size := by omega
    simp only [TgV.enc]
    gi_wp2
    refine ⟨(Hold.refl _ _).alloc _ (fun k hk => hk.1), fun W2 hs2 hh2 => ?_⟩
    have hs2' : W2.heap.size = W.heap.size + 1 := by rw [hs2]; try simp
    have hv2 : Boxed W2 (w.heap.size + 1) 42 v := (hh2.block _ (by omega)).trans (hv.alloc _)
    have hb2 : W2.heap[W.heap.size]? = some (.cells #[.int .i64 xt, .slice xA l.length xc] 46 (0, 0)) := (hh2.block _ (by omega)).trans (heap_alloc_new W _)
    have hR2 : Kd.R k46 46 W2 w.heap.size (fun k => T k ∧ k ≠ w.heap.size + 1) v out := hh2.row (Kd.R_alloc hR _) (fun k hk => by
      rcases (hTs k hk.1).1 with h | h
      · omega
      · omega)
    have hW2 : Below w.heap.size w W2 := hBW.trans (Hold.below_ (A := W) ((Hold.alloc (Hold.refl (fun k => k < w.heap.size) W) _ (fun k hk => by omega)).trans (hh2.mono (fun k hk => by omega))) (fun k hk => hk))
    have hCl : Kd.C (Kd.int .i64) W2 xA l.length l ∧ l.length ≤ xc ∧ l.length < 17592186044416 := by
      rcases hor with ⟨e1, e2, e3⟩ | ⟨e1, e2, e3⟩
      · have e1 : xA = A0_4 := e1
        have e3 : xc = c0_4 := e3
        subst e1; subst e2; subst e3
        exact ⟨Kd.C_below hr0_4 hW2, hc0_4, hl4'.out⟩
      · have e1 : xA = A0_5 := e1
        have e3 : xc = c0_5 := e3
        subst e1; subst e2; subst e3
        exact ⟨Kd.C_below hr0_5 hW2, hc0_5, hl5'.out⟩
    obtain ⟨hC, hcl, hll⟩ := hCl
    have hclone : slices_Clone_int_int.f l = some l := by
      unfold slices_Clone_int_int.f
      rw [Option.bind_some, List.length_nil, Nat.zero_add, if_pos hll, List.nil_append]
    have q1 : W2.cell? ⟨W.heap.size, 1, none⟩ = some (.slice xA l.length xc) := (blk_cell hb2 1).trans rfl
    have hA1 := Aside0.mk hh2
    have hA2 := Aside0.mk hR2
    have hA3 := Aside0.mk hTs
    have hA4 := Aside0.mk hs2'
    have hA5 := Aside0.mk hs0
    have hA6 := Aside0.mk hclone
    have hA7 := Aside0.mk hv2
    have hA8 := Aside0.mk hb2
    have hA9 := Aside0.mk hsz2
    have hA10 := Aside0.mk hW2
    have hA11 := Aside0.mk hol
    clear hh2 hR2 hTs hs2 hs2' hR hv hkp hs0 hclone hv2 hb2 hor hW2 hBW hsz2 hll hol hsz hB0 hbO hbE
    gi_wp2_with (first
      | (refine ⟨trivial, ?_⟩; gi_at_call 29; refine Aside0.out ?_))
    refine ⟨?_⟩
    refine (CallsIn.inRound _ (callsIn_wide.2 (slices_Clone_int_int.calls xA xc l l _ hC hcl hA6.out))).mono ?_
    rintro e w3 ⟨v3, rfl, hR3, hB3⟩
    obtain ⟨A3, c3, rfl⟩ := Kd.R_slice hR3
    have hs2 := hA4.out
    have hsz2 := hA9.out
    have hs3 := hB3.size
    have hb3 : w3.heap[W.heap.size]? = some (.cells #[.int .i64 xt, .slice xA l.length xc] 46 (0, 0)) := (hB3.block _ (by omega)).trans hA8.out
    have q3 := blk_cell hb3 1
    have qf3 := blk_frozen hb3 1
    obtain ⟨W4, hW4⟩ : ∃ W4, w3.setCell ⟨W.heap.size, 1, none⟩ (.slice A3 l.length c3) = W4 := ⟨_, rfl⟩
    have hs4 : W4.heap.size = w3.heap.size := by rw [← hW4]; simp [World.setCell]
    have hb4 : W4.heap[W.heap.size]? = some (.cells #[.int .i64 xt, .slice A3 l.length c3] 46 (0, 0)) := by rw [← hW4]; simpa using blk_set hb3 1 (.slice A3 l.length c3)
    have hH4 : Hold (fun k => k < W2.heap.size ∧ k ≠ W.heap.size) W2 W4 := by
      rw [← hW4]
      exact (Hold.of_below hB3 (fun k hk => hk.1)).setCell ⟨W.heap.size, 1, none⟩ _ (fun h => h.2 rfl)
    have hv4 : Boxed W4 (w.heap.size + 1) 42 v := (hH4.block _ ⟨by omega, by omega⟩).trans hA7.out
    have hR4 : Kd.R k46 46 W4 w.heap.size (fun k => T k ∧ k ≠ w.heap.size + 1) v out := hH4.row hA2.out (fun k hk => by have := (hA3.out k hk.1).2; exact ⟨by omega, by omega⟩)
    have hR34 : Kd.R (Kd.int .i64) 3 W4 W2.heap.size (fun _ => True) (.slice A3 l.length c3) l := by
      rw [← hW4]
      exact Kd.R_mono (Kd.R_far (p := ⟨W.heap.size, 1, none⟩) (Kd.R_bound hR3) (fun k hk => by have := hk.2.1; show k ≠ W.heap.size; omega) _) (fun _ _ => trivial)
    obtain ⟨A, c, rfl⟩ := Kd.R_slice hR4
    have qo := hv4.cell
    have qof := hv4.frozen
    have q40 := blk_cell hb4 0
    have q41 := blk_cell hb4 1
    have hB1' := Aside0.mk hH4
    have hB2' := Aside0.mk hv4
    have hB3' := Aside0.mk hR4
    have hB4' := Aside0.mk hR34
    have hB5' := Aside0.mk hs4
    have hB6' := Aside0.mk hs3
    clear hH4 hv4 hR4 hR34 hs4 hs3 hb4 hb3 hR3 hB3 hs2 hsz2
    go_simp
    gi_wp2_with (first
      | (gi_at_builtin; refine Aside0.out ?_))
    refine ⟨?_⟩
    have hs4 := hB5'.out
    have hs3 := hB6'.out
    have hs2 := hA4.out
    have hsz2 := hA9.out
    refine R_appendIn k46 w.heap.size rfl _ _ 42 46 (.agg #[.int .i64 0, .slice none 0 0]) 32 rfl Try.underlying42 info46 rfl (by decide) (by decide) (.slice A out.length c) out (⟨xt, l⟩ : S46) [.int .i64 xt, .slice A3 l.length c3] (fun k => (T k ∨ W.heap.size ≤ k) ∧ k ≠ w.heap.size + 1) (fun k => W2.heap.size ≤ k) rfl rfl (k46_mkM _ _ _ _ (Kd.R_lower (Kd.R_mono (Kd.R_bound hB4'.out) (fun k hk => hk.2.1)) (by omega))) (fun k hk => ⟨⟨.inr (by omega), by omega⟩, fun e => ?_⟩) (fun k hk => ⟨.inr (by omega), by omega⟩) (Kd.R_mono hB3'.out (fun k hk => ⟨.inl hk.1, hk.2⟩)) (by omega) (by have := hA11.out; omega) ?_
    · have := (hA3.out k (hB3'.out.1 k e.symm).1).2
      omega
    intro g cap w5 hR5 hg5 hat5
    have hv5 : Boxed w5 (w.heap.size + 1) 42 (.slice A out.length c) := Boxed.kept (W := W4) hB2'.out hg5 (fun e => (hB3'.out.1 _ e.symm).2 rfl)
    have hc5 := hv5.cell
    have hf5 := hv5.frozen
    have hown5 := hB3'.out.1
    have hR5' := Aside0.mk hR5
    have hg5' := Aside0.mk hg5
    have hv5' := Aside0.mk hv5
    have hown5' := Aside0.mk hown5
    clear hR5 hg5 hat5 hv5 hown5 hs4 hs3 hs2 hsz2
    gi_wp2
    have hs4 := hB5'.out
    have hs3 := hB6'.out
    have hs2 := hA4.out
    have hsz2 := hA9.out
    have hs5 : W4.heap.size ≤ w5.heap.size := hg5'.out.size
    refine ⟨fun k => (T k ∨ W.heap.size ≤ k) ∧ k < w5.heap.size, fun k hk => ⟨hk.1, by simpa [World.setCell] using hk.2⟩, ?_, ⟨.inl hT, by omega⟩, _, hv5'.out.set _, ?_⟩
    · exact ((hB1'.out.mono (fun k hk => ⟨by omega, by omega⟩)).grown hg5'.out (fun k hk => by omega) (fun k hk e => hk.2 (hown5'.out k e.symm).1)).setCell ⟨w.heap.size + 1, 0, none⟩ _ (fun h => h.2 hT)
    · rw [List.length_append, List.length_singleton, htk.out, hout'.out]
      exact Kd.R_mono (Kd.R_far (p := ⟨w.heap.size + 1, 0, none⟩) (Kd.R_bound hR5'.out) (fun k hk => hk.1.2) _) (fun k hk => ⟨⟨hk.1.1, hk.2.2.1⟩, hk.1.2⟩)
  case done =>
    rintro D xs T W hD rfl ⟨hT, v, hv, hR⟩ hK hkp hTs
    rw [tgR_all, hr'.out] at hR
    have hc := hv.cell
    gi_wp2
    refine ⟨by simp, .inl ⟨_, _, rfl, run_takeDeferred hK, ?_⟩⟩
    refine ⟨_, results_tmp rfl _ _ _, v, rfl, ?_, ?_⟩
    · exact Kd.R_mono (Kd.R_step hR (fun k hk hlt => World.putObj_heap_other (fun e => by have := (hTs k hk.1).1; omega))) (fun _ _ => trivial)
    · exact hB0.trans (Below.trans (Keep.below hkp (by omega) (fun k hk => by omega)) (Hold.putObj _ _ _ |>.below_ (fun k hk => by omega)))

/-! ### hallmarkref07_Ahead: function 22 -/
def hallmarkref07_Ahead.l0 : Nat → Int → List Int → Int → Int → List (S34) → Option (List Int)
  | 0, _, _, _, _, _ => none
  | k + 1, x1, x5, x6, x194000, x194001 => if x6 < (x194001.length : Int) then (if 0 ≤ x6 then ((hallmarkref07_Next.f k ((rd_T34 x194001 x6).f0) ((rd_T34 x194001 x6).f1) ((rd_T34 x194001 x6).f2.f0) ((rd_T34 x194001 x6).f2.f1) ((rd_T34 x194001 x6).f2.f2) ((rd_T34 x194001 x6).f2.f3) ((rd_T34 x194001 x6).f2.f4) ((rd_T34 x194001 x6).f2.f5)).bind fun t198 => ((hallmarkref07_Has.f k t198 x1).bind fun t201 => (if t201 = true then (if x5.length < 17592186044416 then (hallmarkref07_Ahead.l0 k x1 (x5 ++ [x6]) (wrap64 (x6 + 1)) x194000 x194001) else (none)) else (hallmarkref07_Ahead.l0 k x1 x5 (wrap64 (x6 + 1)) x194000 x194001)))) else (none)) else (some x5)
def hallmarkref07_Ahead.f (k : Nat) (a0_0 : Int) (l0_1 : List (S34)) (a1 : Int) : Option (List Int) := hallmarkref07_Ahead.l0 k a1 (([] : List Int)) 0 a0_0 l0_1
theorem hallmarkref07_Ahead.mono_l : ∀ k, (∀ y0 y1 y2 y3 y4, LeO (hallmarkref07_Ahead.l0 k y0 y1 y2 y3 y4) (hallmarkref07_Ahead.l0 (k + 1) y0 y1 y2 y3 y4))
  | 0 => fun _ _ _ _ _ r h => by simp [hallmarkref07_Ahead.l0] at h
  | k + 1 => by
    have ih0 := hallmarkref07_Ahead.mono_l k
    · intro y0 y1 y2 y3 y4
      unfold hallmarkref07_Ahead.l0
      repeat' first
      | (with_reducible exact ih0 _ _ _ _ _)
      | (with_reducible exact hallmarkref07_Has.mono _ _ _)
      | (with_reducible exact hallmarkref07_Next.mono _ _ _ _ _ _ _ _ _)
      | (with_reducible exact LeO.refl _)
      | (with_reducible exact LeO.none _)
      | (with_reducible refine LeO.ite ?_ ?_)
      | (with_reducible refine LeO.bind ?_ (fun _ => ?_))
      | exact ih0 _ _ _ _ _
      | exact hallmarkref07_Has.mono _ _ _
      | exact hallmarkref07_Next.mono _ _ _ _ _ _ _ _ _
      | exact LeO.none _
      | refine LeO.ite ?_ ?_
      | refine LeO.bind ?_ (fun _ => ?_)
theorem hallmarkref07_Ahead.mono : ∀ a0 a1 a2 k, LeO (hallmarkref07_Ahead.f k a0 a1 a2) (hallmarkref07_Ahead.f (k + 1) a0 a1 a2) := by
  intro a0 a1 a2 k
  have ih0 := hallmarkref07_Ahead.mono_l k
  unfold hallmarkref07_Ahead.f
  repeat' first
      | (with_reducible exact ih0 _ _ _ _ _)
      | (with_reducible exact hallmarkref07_Has.mono _ _ _)
      | (with_reducible exact hallmarkref07_Next.mono _ _ _ _ _ _ _ _ _)
      | (with_reducible exact LeO.refl _)
      | (with_reducible exact LeO.none _)
      | (with_reducible refine LeO.ite ?_ ?_)
      | (with_reducible refine LeO.bind ?_ (fun _ => ?_))
      | exact ih0 _ _ _ _ _
      | exact hallmarkref07_Has.mono _ _ _
      | exact hallmarkref07_Next.mono _ _ _ _ _ _ _ _ _
      | exact LeO.none _
      | refine LeO.ite ?_ ?_
      | refine LeO.bind ?_ (fun _ => ?_)
set_option maxHeartbeats 8000000 in
set_option maxRecDepth 100000 in
theorem hallmarkref07_Ahead.calls (k : Nat) (a0_0 : Int) (A0_1 : Option Addr) (c0_1 : Nat) (l0_1 : List (S34)) (a1 : Int) (r : List Int) (w : World) (hr0_1 : Kd.C k34 w A0_1 l0_1.length l0_1) (hc0_1 : l0_1.length ≤ c0_1) (h : hallmarkref07_Ahead.f k a0_0 l0_1 a1 = some r) :
    Calls Try.prog 22 #[.agg #[.int .i64 a0_0, .slice A0_1 l0_1.length c0_1], .int .i64 a1] w fun e w' => ∃ v0_ : Value, e = .returned (v0_) ∧ Kd.R (Kd.int .i64) 3 w' w.heap.size (fun _ => True) v0_ r ∧ Below w.heap.size w w' := by
  have hu24 := Try.underlying24
  have hu34 := Try.underlying34
  have HR0_1 := Aside0.mk hr0_1
  have HC0_1 := Aside0.mk hc0_1
  clear hr0_1 hc0_1
  have HB := Aside0.mk (Below.refl w.heap.size w)
  have H : (hallmarkref07_Ahead.l0 k a1 (([] : List Int)) 0 a0_0 l0_1) = some r := h
  clear h
  obtain ⟨y194, hy194⟩ : ∃ y_ : List Int, y_ = (([] : List Int)) := ⟨_, rfl⟩
  replace H : (hallmarkref07_Ahead.l0 k a1 y194 0 a0_0 l0_1) = some r := by first | (rw [hy194]; with_reducible exact H) | (have H2_ := (Option.bind_some _ _).symm.trans H; rw [hy194]; with_reducible exact H2_) | (have H2_ := (Option.bind_some _ _).symm.trans H; with_reducible exact H2_) | with_reducible exact H | (rw [hy194]; exact H) | exact H
  have Ny194 := Aside0.mk hy194
  clear hy194
  have H' := Aside0.mk H
  clear H
  go_enter Try.func22, Try.ntmps22
  go_wp2_with (first | ((with_reducible refine gate_dst (N := 2) rfl ?_); refine box_event ?hg (N := 2) ?hd (cs := #[.int .i64 a0_0, .slice A0_1 l0_1.length c0_1]) (t := 24) ?hr ?_; (case hd => rfl); (case hg => rfl); (case hr => first | (go_simp; done) | (go_simp; rfl)); intro gb193 hg w3 hbox hb; have n0_ := Aside0.mk (below_step (by repeat (first | (with_reducible first | exact HB.out | apply below_alloc | apply pw_below_drewN | apply below_drew1) | exact HB.out)) hb); have n1_ := Aside0.mk (hbox); have n2_ := Aside0.mk ((by rw [hg]; exact (below_size (by repeat (first | (with_reducible first | exact HB.out | apply below_alloc | apply pw_below_drewN | apply below_drew1) | exact HB.out))) : w.heap.size ≤ gb193)); have n3_ := Aside0.mk ((by rw [hg]; exact (below_size (by repeat (first | (with_reducible first | exact HB.out | apply below_alloc | apply pw_below_drewN | apply below_drew1) | exact HB.out))) : w.heap.size ≤ gb193)); clear HB; have HB := n0_; have BK193 := n1_; have GW193 := n2_; have GE193 := n3_; clear n0_ n1_ n2_ n3_; clear hb hbox hg) | ((with_reducible refine gate_dst (N := 7) rfl ?_); refine Kd.R_lit (Kd.int .i64) _ 3 ?hg (N := 7) ?hd (xs := ([] : List Int)) (inner := []) (ok := fun _ => True) (okp := fun _ => True) ?hr ?hp (fun _ hk => hk) trivial (Below.refl _ _) (Nat.le_refl _) (by simp) ?_; (case hd => rfl); (case hg => rfl); (case hr => first | (go_simp; done) | (go_simp; rfl)); (case hp => exact (Reps.none _ _)); intro v195 w4 ho5 hb hg_ hnew_; clear hg_ hnew_; (first | rw [← Ny194.out] at ho5 | (simp only [Int.reduceToNat] at ho5; rw [← Ny194.out] at ho5)); have n0_ := Aside0.mk (Kd.R_lower ho5 (below_size (by repeat (first | (with_reducible first | exact HB.out | apply below_alloc | apply pw_below_drewN | apply below_drew1 | refine below_set ?_ GE193.out) | exact HB.out)))); have n1_ := Aside0.mk (blk_below (g := gb193) (o := .cells #[.int .i64 a0_0, .slice A0_1 l0_1.length c0_1] 24 (0, 0)) (by (with_reducible repeat (first | refine blk_drewN ?_ _ | refine blk_drew ?_ | refine blk_alloc ?_ _)); exact BK193.out) hb); have n2_ := Aside0.mk (below_step (by repeat (first | (with_reducible first | exact HB.out | apply below_alloc | apply pw_below_drewN | apply below_drew1 | refine below_set ?_ GE193.out) | exact HB.out)) hb); clear BK193; clear HB; have HO196 := n0_; have BK193 := n1_; have HB := n2_; clear n0_ n1_ n2_; clear hb ho5))
  go_loopg [5, 6] k (fun kq v5 v6 w' => ∃ (x5_1 : List Int) (x6_1 : Int), v6 = .int .i64 x6_1 ∧ Aside0 (hallmarkref07_Ahead.l0 kq a1 x5_1 x6_1 a0_0 l0_1 = some r) ∧ Aside0 (kq ≤ k) ∧ Aside0 (Kd.R (Kd.int .i64) 3 w' w.heap.size (fun _ => True) v5 x5_1) ∧ Aside0 (w'.heap[gb193]? = some (.cells #[.int .i64 a0_0, (.slice A0_1 l0_1.length c0_1)] 24 (0, 0))) ∧ Aside0 (Below w.heap.size w w'))
  case atStart => exact ⟨(y194), (0), (by first | rfl | (simp; done) | (simp [*]; done)), H', ⟨Nat.le_refl _⟩, ⟨by (with_reducible repeat (first | apply Kd.R_alloc | apply Kd.R_drewN | apply Kd.R_drew)); exact HO196.out⟩, ⟨by (with_reducible repeat (first | refine blk_drewN ?_ _ | refine blk_drew ?_ | refine blk_alloc ?_ _)); exact BK193.out⟩, ⟨by repeat (first | (with_reducible first | exact HB.out | apply below_alloc | apply pw_below_drewN | apply below_drew1 | refine below_set ?_ GE193.out) | exact HB.out)⟩⟩
  case round =>
    clear H'
    try clear c2
    try clear p2
    obtain ⟨x5_1, x6_1, rfl, HA, HK1, HO_5, BK193, HB⟩ := hrel
    cases gk with
    | zero => exact absurd HA.out (by simp [hallmarkref07_Ahead.l0])
    | succ k1 =>
      have H := HA.out
      clear HA
      simp only [hallmarkref07_Ahead.l0] at H
      by_cases c6 : x6_1 < (l0_1.length : Int)
      · rw [if_pos c6] at H
        have c6b0 : decide (x6_1 < (l0_1.length : Int)) = true := decide_eq_true c6
        clear c6
        by_cases c7 : 0 ≤ x6_1
        · rw [if_pos c7] at H
          have c7b0 : decide (0 ≤ x6_1) = true := decide_eq_true c7
          clear c7
          replace H := Option.bind_eq_some_iff.mp H
          obtain ⟨t198, A80, H⟩ := H
          replace H : ((hallmarkref07_Has.f k1 t198 a1).bind fun t201 => (if t201 = true then (if x5_1.length < 17592186044416 then (hallmarkref07_Ahead.l0 k1 a1 (x5_1 ++ [x6_1]) (wrap64 (x6_1 + 1)) a0_0 l0_1) else (none)) else (hallmarkref07_Ahead.l0 k1 a1 x5_1 (wrap64 (x6_1 + 1)) a0_0 l0_1))) = some r := H
          have A8 := Aside0.mk A80
          clear A80
          replace H := Option.bind_eq_some_iff.mp H
          obtain ⟨t201, A90, H⟩ := H
          replace H : (if t201 = true then (if x5_1.length < 17592186044416 then (hallmarkref07_Ahead.l0 k1 a1 (x5_1 ++ [x6_1]) (wrap64 (x6_1 + 1)) a0_0 l0_1) else (none)) else (hallmarkref07_Ahead.l0 k1 a1 x5_1 (wrap64 (x6_1 + 1)) a0_0 l0_1)) = some r := H
          have A9 := Aside0.mk A90
          clear A90
          by_cases c10 : t201 = true
          · subst c10
            have H1 : (if x5_1.length < 17592186044416 then (hallmarkref07_Ahead.l0 k1 a1 (x5_1 ++ [x6_1]) (wrap64 (x6_1 + 1)) a0_0 l0_1) else (none)) = some r := by rw [if_pos rfl] at H; exact H
            clear H
            have H := H1
            clear H1
            by_cases c11 : x5_1.length < 17592186044416
            · rw [if_pos c11] at H
              have LMc11 := Aside0.mk c11
              clear c11
              obtain ⟨y202, hy202⟩ : ∃ y_ : List Int, y_ = (x5_1 ++ [x6_1]) := ⟨_, rfl⟩
              replace H : (hallmarkref07_Ahead.l0 k1 a1 y202 (wrap64 (x6_1 + 1)) a0_0 l0_1) = some r := by first | (rw [hy202]; with_reducible exact H) | (have H2_ := (Option.bind_some _ _).symm.trans H; rw [hy202]; with_reducible exact H2_) | (have H2_ := (Option.bind_some _ _).symm.trans H; with_reducible exact H2_) | with_reducible exact H | (rw [hy202]; exact H) | exact H
              have Ny202 := Aside0.mk hy202
              clear hy202
              have H' := Aside0.mk H
              clear H
              have hcz12_0 : wr.cell? ⟨gb193, 0, none⟩ = some (.int .i64 a0_0) := (blk_cell BK193.out 0).trans rfl
              have hcz12_1 : wr.cell? ⟨gb193, 1, none⟩ = some (.slice A0_1 l0_1.length c0_1) := (blk_cell BK193.out 1).trans rfl
              have hfz12_0 := blk_frozen BK193.out 0
              have hfz12_1 := blk_frozen BK193.out 1
              have p197 : 0 ≤ (x6_1 : Int) := of_decide_eq_true (by first | (with_reducible assumption) | assumption)
              have q197 : x6_1 < (l0_1.length : Int) := of_decide_eq_true (by first | (with_reducible assumption) | assumption)
              obtain ⟨ad197, A197_0, c197_0, A197_1, c197_1, A197_6, c197_6, A197_7, c197_7, e197, hx197_0, hx197_1, hx197_2, hx197_3, hx197_4, hx197_5, hx197_6, hx197_7, hl197_0, hi197_0, hl197_1, hi197_1, hl197_6, hi197_6, hl197_7, hi197_7⟩ := at_T34 HR0_1.out x6_1 p197 q197
              cases e197
              replace hx197_0 := (HB.out.cell (World.block_lt_of_cell? w _ hx197_0)).trans hx197_0
              replace hx197_1 := (HB.out.cell (World.block_lt_of_cell? w _ hx197_1)).trans hx197_1
              replace hx197_2 := (HB.out.cell (World.block_lt_of_cell? w _ hx197_2)).trans hx197_2
              replace hx197_3 := (HB.out.cell (World.block_lt_of_cell? w _ hx197_3)).trans hx197_3
              replace hx197_4 := (HB.out.cell (World.block_lt_of_cell? w _ hx197_4)).trans hx197_4
              replace hx197_5 := (HB.out.cell (World.block_lt_of_cell? w _ hx197_5)).trans hx197_5
              replace hx197_6 := (HB.out.cell (World.block_lt_of_cell? w _ hx197_6)).trans hx197_6
              replace hx197_7 := (HB.out.cell (World.block_lt_of_cell? w _ hx197_7)).trans hx197_7
              have HR197_0 := Aside0.mk hi197_0
              have HC197_0 := Aside0.mk hl197_0
              clear hi197_0 hl197_0
              have HR197_1 := Aside0.mk hi197_1
              have HC197_1 := Aside0.mk hl197_1
              clear hi197_1 hl197_1
              have HR197_6 := Aside0.mk hi197_6
              have HC197_6 := Aside0.mk hl197_6
              clear hi197_6 hl197_6
              have HR197_7 := Aside0.mk hi197_7
              have HC197_7 := Aside0.mk hl197_7
              clear hi197_7 hl197_7
              replace p197 := eq_true p197
              replace q197 := eq_true q197
              go_wp2_with (first | ((with_reducible refine gate_callee (f := 11) rfl ?_); refine goesL_ (some 20) rfl rfl Try.func11 (by kernel_rfl) rfl #[.agg #[.slice A197_0 ((rd_T34 l0_1 x6_1).f0).length c197_0, .slice A197_1 ((rd_T34 l0_1 x6_1).f1).length c197_1, .int .i64 ((rd_T34 l0_1 x6_1).f2.f0), .int .i64 ((rd_T34 l0_1 x6_1).f2.f1), .int .i64 ((rd_T34 l0_1 x6_1).f2.f2), .int .i64 ((rd_T34 l0_1 x6_1).f2.f3), .slice A197_6 ((rd_T34 l0_1 x6_1).f2.f4).length c197_6, .slice A197_7 ((rd_T34 l0_1 x6_1).f2.f5).length c197_7]] rfl (by (try simp only [List.map_toArray, List.map_cons, List.map_nil]); first | done | rfl | (simp only [List.length_drop, List.length_take]; rfl)) ?_; (with_reducible refine (hallmarkref07_Next.calls k1 _ _ ((rd_T34 l0_1 x6_1).f0) _ _ ((rd_T34 l0_1 x6_1).f1) ((rd_T34 l0_1 x6_1).f2.f0) ((rd_T34 l0_1 x6_1).f2.f1) ((rd_T34 l0_1 x6_1).f2.f2) ((rd_T34 l0_1 x6_1).f2.f3) _ _ ((rd_T34 l0_1 x6_1).f2.f4) _ _ ((rd_T34 l0_1 x6_1).f2.f5) t198 _ ?side1 ?side2 ?side3 ?side4 ?side5 ?side6 ?side7 ?side8 A8.out).mono ?_); (case side1 => repeat (first | exact (Kd.C_below HR197_0.out HB.out) | (with_reducible refine Kd.C_alloc ?_ _) | (with_reducible refine Kd.C_drewN ?_ _) | (with_reducible refine Kd.C_drew ?_))); (case side2 => exact HC197_0.out); (case side3 => repeat (first | exact (Kd.C_below HR197_1.out HB.out) | (with_reducible refine Kd.C_alloc ?_ _) | (with_reducible refine Kd.C_drewN ?_ _) | (with_reducible refine Kd.C_drew ?_))); (case side4 => exact HC197_1.out); (case side5 => repeat (first | exact (Kd.C_below HR197_6.out HB.out) | (with_reducible refine Kd.C_alloc ?_ _) | (with_reducible refine Kd.C_drewN ?_ _) | (with_reducible refine Kd.C_drew ?_))); (case side6 => exact HC197_6.out); (case side7 => repeat (first | exact (Kd.C_below HR197_7.out HB.out) | (with_reducible refine Kd.C_alloc ?_ _) | (with_reducible refine Kd.C_drewN ?_ _) | (with_reducible refine Kd.C_drew ?_))); (case side8 => exact HC197_7.out); rintro e w13 ⟨v199, rfl, ho0, hb⟩; refine ⟨_, rfl, ?_⟩; have n0_ := Aside0.mk (Kd.R_elder' (by (with_reducible repeat (first | apply Kd.R_alloc | apply Kd.R_drewN | apply Kd.R_drew)); exact HO_5.out) (Kd.R_base ho0) hb); have n1_ := Aside0.mk (Kd.R_lower (Kd.R_new' ho0 (Kd.R_lt (by (with_reducible repeat (first | apply Kd.R_alloc | apply Kd.R_drewN | apply Kd.R_drew)); exact HO_5.out))) (below_size (by repeat (first | (with_reducible first | exact HB.out | apply below_alloc | apply pw_below_drewN | apply below_drew1 | refine below_set ?_ GE193.out) | exact HB.out)))); have n2_ := Aside0.mk (blk_below (g := gb193) (o := .cells #[.int .i64 a0_0, .slice (some ad197) l0_1.length c0_1] 24 (0, 0)) (by (with_reducible repeat (first | refine blk_drewN ?_ _ | refine blk_drew ?_ | refine blk_alloc ?_ _)); exact BK193.out) hb); have n3_ := Aside0.mk (below_step (by repeat (first | (with_reducible first | exact HB.out | apply below_alloc | apply pw_below_drewN | apply below_drew1 | refine below_set ?_ GE193.out) | exact HB.out)) hb); clear HO_5; clear BK193; clear HB; have HO_5 := n0_; have HO200 := n1_; have BK193 := n2_; have HB := n3_; clear n0_ n1_ n2_ n3_; (try clear hb); (try clear hb2); (try clear hk); (try clear hi); (try clear ho0); obtain ⟨Ao14, co14, eo14⟩ := Kd.R_slice HO200.out; subst eo14) | ((with_reducible refine gate_callee (f := 10) rfl ?_); refine goesL_ (some 22) rfl rfl Try.func10 (by kernel_rfl) rfl #[.slice Ao14 t198.length co14, .int .i64 a1] rfl (by (try simp only [List.map_toArray, List.map_cons, List.map_nil]); first | done | rfl | (simp only [List.length_drop, List.length_take]; rfl)) ?_; (with_reducible refine (hallmarkref07_Has.calls k1 _ _ t198 a1 true _ ?side1 ?side2 A9.out).mono ?_); (case side1 => repeat (first | exact (Kd.R_reads' HO200.out).2.2 | (with_reducible refine Kd.C_alloc ?_ _) | (with_reducible refine Kd.C_drewN ?_ _) | (with_reducible refine Kd.C_drew ?_))); (case side2 => exact (Kd.R_reads' HO200.out).2.1); rintro e w' ⟨rfl, ⟨nd, rfl⟩⟩; refine ⟨_, rfl, ?_⟩) | ((with_reducible refine gate_builtin (b := .append) (xs := #[.tmp 23, .tmp 25]) rfl ?_); at_builtin; refine Kd.R_append (Kd.int .i64) (w0 := w) w.heap.size rfl (.tmp 23) (.tmp 25) 26 3 (.int .i64 0) 8 rfl Try.underlying26 info3 rfl (by decide) (by omega) u5 x5_1 x6_1 [.int .i64 x6_1] (fun k_ => some k_ ≠ (.slice Ao14 t198.length co14 : Value).ownBlock) (fun _ => False) rfl rfl ?aP (fun _ hk => hk.elim) ?aF ?aO ?aB ?aS ?aL ?_; (case aP => exact rfl); (case aB => exact (by repeat (first | (with_reducible first | exact HB.out | apply below_alloc | apply pw_below_drewN | apply below_drew1 | refine below_set ?_ GE193.out) | exact HB.out))); (case aF => exact (fun k_ hk => Kd.fresh' (Kd.R_lt (by (with_reducible repeat (first | apply Kd.R_alloc | apply Kd.R_drewN | apply Kd.R_drew)); exact HO200.out)) k_ hk)); (case aO => exact (by (with_reducible repeat (first | apply Kd.R_alloc | apply Kd.R_drewN | apply Kd.R_drew)); exact Kd.R_mono HO_5.out (fun _ hk => hk.2))); (case aS => exact (below_size (by repeat (first | (with_reducible first | exact HB.out | apply below_alloc | apply pw_below_drewN | apply below_drew1 | refine below_set ?_ GE193.out) | exact HB.out)))); (case aL => have := LMc11.out; omega); intro v203 w15 ho hb hg hat; rw [← Ny202.out] at ho; have n0_ := Aside0.mk (blk_grown (g := gb193) (o := .cells #[.int .i64 a0_0, .slice (some ad197) l0_1.length c0_1] 24 (0, 0)) (by (with_reducible repeat (first | refine blk_drewN ?_ _ | refine blk_drew ?_ | refine blk_alloc ?_ _)); exact BK193.out) hg (Kd.R_ne HO_5.out BK193.out (by decide))); have n1_ := Aside0.mk (Kd.R_after (ok := (fun _ => True)) (by (with_reducible repeat (first | apply Kd.R_alloc | apply Kd.R_drewN | apply Kd.R_drew)); first | exact HO200.out | exact Kd.R_mono HO200.out (fun k_ hk_ => by (simp only [true_and, and_assoc] at hk_ ⊢; exact hk_))) hg hat); have n2_ := Aside0.mk (hb); have n3_ := Aside0.mk (ho); clear BK193; clear HO200; clear HB; clear HO_5; have BK193 := n0_; have HO200 := n1_; have HB := n2_; have HO204 := n3_; clear n0_ n1_ n2_ n3_; clear ho hb hg hat))
              go_roundg k1
              case measure => have := HK1.out; omega
              case rel => exact ⟨(y202), (wrap64 (x6_1 + 1)), (by first | rfl | (simp; done) | (simp [*]; done)), H', ⟨by have := HK1.out; omega⟩, ⟨by (with_reducible repeat (first | apply Kd.R_alloc | apply Kd.R_drewN | apply Kd.R_drew)); exact Kd.R_mono HO204.out (fun _ hk => trivial)⟩, ⟨by (with_reducible repeat (first | refine blk_drewN ?_ _ | refine blk_drew ?_ | refine blk_alloc ?_ _)); exact BK193.out⟩, ⟨by repeat (first | (with_reducible first | exact HB.out | apply below_alloc | apply pw_below_drewN | apply below_drew1 | refine below_set ?_ GE193.out) | exact HB.out)⟩⟩
            · rw [if_neg c11] at H
              exact absurd H (by simp)
          · replace c10 := Bool.eq_false_iff.mpr c10
            subst c10
            have H1 : (hallmarkref07_Ahead.l0 k1 a1 x5_1 (wrap64 (x6_1 + 1)) a0_0 l0_1) = some r := by rw [if_neg (show ¬ (false = true) by decide)] at H; exact H
            clear H
            have H := H1
            clear H1
            have H' := Aside0.mk H
            clear H
            have hcz16_0 : wr.cell? ⟨gb193, 0, none⟩ = some (.int .i64 a0_0) := (blk_cell BK193.out 0).trans rfl
            have hcz16_1 : wr.cell? ⟨gb193, 1, none⟩ = some (.slice A0_1 l0_1.length c0_1) := (blk_cell BK193.out 1).trans rfl
            have hfz16_0 := blk_frozen BK193.out 0
            have hfz16_1 := blk_frozen BK193.out 1
            have p197 : 0 ≤ (x6_1 : Int) := of_decide_eq_true (by first | (with_reducible assumption) | assumption)
            have q197 : x6_1 < (l0_1.length : Int) := of_decide_eq_true (by first | (with_reducible assumption) | assumption)
            obtain ⟨ad197, A197_0, c197_0, A197_1, c197_1, A197_6, c197_6, A197_7, c197_7, e197, hx197_0, hx197_1, hx197_2, hx197_3, hx197_4, hx197_5, hx197_6, hx197_7, hl197_0, hi197_0, hl197_1, hi197_1, hl197_6, hi197_6, hl197_7, hi197_7⟩ := at_T34 HR0_1.out x6_1 p197 q197
            cases e197
            replace hx197_0 := (HB.out.cell (World.block_lt_of_cell? w _ hx197_0)).trans hx197_0
            replace hx197_1 := (HB.out.cell (World.block_lt_of_cell? w _ hx197_1)).trans hx197_1
            replace hx197_2 := (HB.out.cell (World.block_lt_of_cell? w _ hx197_2)).trans hx197_2
            replace hx197_3 := (HB.out.cell (World.block_lt_of_cell? w _ hx197_3)).trans hx197_3
            replace hx197_4 := (HB.out.cell (World.block_lt_of_cell? w _ hx197_4)).trans hx197_4
            replace hx197_5 := (HB.out.cell (World.block_lt_of_cell? w _ hx197_5)).trans hx197_5
            replace hx197_6 := (HB.out.cell (World.block_lt_of_cell? w _ hx197_6)).trans hx197_6
            replace hx197_7 := (HB.out.cell (World.block_lt_of_cell? w _ hx197_7)).trans hx197_7
            have HR197_0 := Aside0.mk hi197_0
            have HC197_0 := Aside0.mk hl197_0
            clear hi197_0 hl197_0
            have HR197_1 := Aside0.mk hi197_1
            have HC197_1 := Aside0.mk hl197_1
            clear hi197_1 hl197_1
            have HR197_6 := Aside0.mk hi197_6
            have HC197_6 := Aside0.mk hl197_6
            clear hi197_6 hl197_6
            have HR197_7 := Aside0.mk hi197_7
            have HC197_7 := Aside0.mk hl197_7
            clear hi197_7 hl197_7
            replace p197 := eq_true p197
            replace q197 := eq_true q197
            go_wp2_with (first | ((with_reducible refine gate_callee (f := 11) rfl ?_); refine goesL_ (some 20) rfl rfl Try.func11 (by kernel_rfl) rfl #[.agg #[.slice A197_0 ((rd_T34 l0_1 x6_1).f0).length c197_0, .slice A197_1 ((rd_T34 l0_1 x6_1).f1).length c197_1, .int .i64 ((rd_T34 l0_1 x6_1).f2.f0), .int .i64 ((rd_T34 l0_1 x6_1).f2.f1), .int .i64 ((rd_T34 l0_1 x6_1).f2.f2), .int .i64 ((rd_T34 l0_1 x6_1).f2.f3), .slice A197_6 ((rd_T34 l0_1 x6_1).f2.f4).length c197_6, .slice A197_7 ((rd_T34 l0_1 x6_1).f2.f5).length c197_7]] rfl (by (try simp only [List.map_toArray, List.map_cons, List.map_nil]); first | done | rfl | (simp only [List.length_drop, List.length_take]; rfl)) ?_; (with_reducible refine (hallmarkref07_Next.calls k1 _ _ ((rd_T34 l0_1 x6_1).f0) _ _ ((rd_T34 l0_1 x6_1).f1) ((rd_T34 l0_1 x6_1).f2.f0) ((rd_T34 l0_1 x6_1).f2.f1) ((rd_T34 l0_1 x6_1).f2.f2) ((rd_T34 l0_1 x6_1).f2.f3) _ _ ((rd_T34 l0_1 x6_1).f2.f4) _ _ ((rd_T34 l0_1 x6_1).f2.f5) t198 _ ?side1 ?side2 ?side3 ?side4 ?side5 ?side6 ?side7 ?side8 A8.out).mono ?_); (case side1 => repeat (first | exact (Kd.C_below HR197_0.out HB.out) | (with_reducible refine Kd.C_alloc ?_ _) | (with_reducible refine Kd.C_drewN ?_ _) | (with_reducible refine Kd.C_drew ?_))); (case side2 => exact HC197_0.out); (case side3 => repeat (first | exact (Kd.C_below HR197_1.out HB.out) | (with_reducible refine Kd.C_alloc ?_ _) | (with_reducible refine Kd.C_drewN ?_ _) | (with_reducible refine Kd.C_drew ?_))); (case side4 => exact HC197_1.out); (case side5 => repeat (first | exact (Kd.C_below HR197_6.out HB.out) | (with_reducible refine Kd.C_alloc ?_ _) | (with_reducible refine Kd.C_drewN ?_ _) | (with_reducible refine Kd.C_drew ?_))); (case side6 => exact HC197_6.out); (case side7 => repeat (first | exact (Kd.C_below HR197_7.out HB.out) | (with_reducible refine Kd.C_alloc ?_ _) | (with_reducible refine Kd.C_drewN ?_ _) | (with_reducible refine Kd.C_drew ?_))); (case side8 => exact HC197_7.out); rintro e w17 ⟨v199, rfl, ho0, hb⟩; refine ⟨_, rfl, ?_⟩; have n0_ := Aside0.mk (Kd.R_elder' (by (with_reducible repeat (first | apply Kd.R_alloc | apply Kd.R_drewN | apply Kd.R_drew)); exact HO_5.out) (Kd.R_base ho0) hb); have n1_ := Aside0.mk (Kd.R_lower (Kd.R_new' ho0 (Kd.R_lt (by (with_reducible repeat (first | apply Kd.R_alloc | apply Kd.R_drewN | apply Kd.R_drew)); exact HO_5.out))) (below_size (by repeat (first | (with_reducible first | exact HB.out | apply below_alloc | apply pw_below_drewN | apply below_drew1 | refine below_set ?_ GE193.out) | exact HB.out)))); have n2_ := Aside0.mk (blk_below (g := gb193) (o := .cells #[.int .i64 a0_0, .slice (some ad197) l0_1.length c0_1] 24 (0, 0)) (by (with_reducible repeat (first | refine blk_drewN ?_ _ | refine blk_drew ?_ | refine blk_alloc ?_ _)); exact BK193.out) hb); have n3_ := Aside0.mk (below_step (by repeat (first | (with_reducible first | exact HB.out | apply below_alloc | apply pw_below_drewN | apply below_drew1 | refine below_set ?_ GE193.out) | exact HB.out)) hb); clear HO_5; clear BK193; clear HB; have HO_5 := n0_; have HO200 := n1_; have BK193 := n2_; have HB := n3_; clear n0_ n1_ n2_ n3_; (try clear hb); (try clear hb2); (try clear hk); (try clear hi); (try clear ho0); obtain ⟨Ao18, co18, eo18⟩ := Kd.R_slice HO200.out; subst eo18) | ((with_reducible refine gate_callee (f := 10) rfl ?_); refine goesL_ (some 22) rfl rfl Try.func10 (by kernel_rfl) rfl #[.slice Ao18 t198.length co18, .int .i64 a1] rfl (by (try simp only [List.map_toArray, List.map_cons, List.map_nil]); first | done | rfl | (simp only [List.length_drop, List.length_take]; rfl)) ?_; (with_reducible refine (hallmarkref07_Has.calls k1 _ _ t198 a1 false _ ?side1 ?side2 A9.out).mono ?_); (case side1 => repeat (first | exact (Kd.R_reads' HO200.out).2.2 | (with_reducible refine Kd.C_alloc ?_ _) | (with_reducible refine Kd.C_drewN ?_ _) | (with_reducible refine Kd.C_drew ?_))); (case side2 => exact (Kd.R_reads' HO200.out).2.1); rintro e w' ⟨rfl, ⟨nd, rfl⟩⟩; refine ⟨_, rfl, ?_⟩))
            go_roundg k1
            case measure => have := HK1.out; omega
            case rel => exact ⟨(x5_1), (wrap64 (x6_1 + 1)), (by first | rfl | (simp; done) | (simp [*]; done)), H', ⟨by have := HK1.out; omega⟩, ⟨by (with_reducible repeat (first | apply Kd.R_alloc | apply Kd.R_drewN | apply Kd.R_drew)); exact Kd.R_mono HO_5.out (fun _ hk => trivial)⟩, ⟨by (with_reducible repeat (first | refine blk_drewN ?_ _ | refine blk_drew ?_ | refine blk_alloc ?_ _)); exact BK193.out⟩, ⟨by repeat (first | (with_reducible first | exact HB.out | apply below_alloc | apply pw_below_drewN | apply below_drew1 | refine below_set ?_ GE193.out) | exact HB.out)⟩⟩
        · rw [if_neg c7] at H
          exact absurd H (by simp)
      · rw [if_neg c6] at H
        have c6b0 : decide (x6_1 < (l0_1.length : Int)) = false := decide_eq_false c6
        clear c6
        obtain rfl := Option.some.inj H
        have hcz19_0 : wr.cell? ⟨gb193, 0, none⟩ = some (.int .i64 a0_0) := (blk_cell BK193.out 0).trans rfl
        have hcz19_1 : wr.cell? ⟨gb193, 1, none⟩ = some (.slice A0_1 l0_1.length c0_1) := (blk_cell BK193.out 1).trans rfl
        have hfz19_0 := blk_frozen BK193.out 0
        have hfz19_1 := blk_frozen BK193.out 1
        go_wp2
        go_ret
        exact ⟨_, by first | rfl | (simp [errW_none, errW_some] <;> rfl) | (simp [*, errW_none, errW_some] <;> rfl), by (with_reducible repeat (first | apply Kd.R_alloc | apply Kd.R_drewN | apply Kd.R_drew)); exact HO_5.out, by repeat (first | (with_reducible first | exact HB.out | apply below_alloc | apply pw_below_drewN | apply below_drew1 | refine below_set ?_ GE193.out) | exact HB.out)⟩

end Go.Proofs.Ytfkicdelkjjliaa.PCfgNext
