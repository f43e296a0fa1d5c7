-- written by wip/print2.py
import Derived.Test.YtfkicdelkjjliaaPCfgNextx0
import Derived.Test.YtfkicdelkjjliaaPCfgNextx1
import Derived.Test.YtfkicdelkjjliaaPCfgNextx3
import Derived.Test.YtfkicdelkjjliaaPCfgNextx4
namespace Go.Proofs.Ytfkicdelkjjliaa.PCfgNext
open Go.RowKit Go.Proofs.YtfkicdelkjjliaaW.PrintWords Go.Proofs.YtfkicdelkjjliaaW.PrintLast Go.Proofs.YtfkicdelkjjliaaW.PrintMore
attribute [local go_sem] max2_int min2_int max_two min_two max_three min_three max_four min_four   -- for this text's walks alone
set_option linter.unusedVariables false
set_option linter.unusedSimpArgs false

/-! ### hallmarklaw07_CfgNext: function 7 -/
abbrev Y : Bool := true
abbrev Z : Bool := false
theorem zm {p : Prop} (h : p) : Aside0 p := ⟨h⟩
theorem zh {w w' : World} {a : Addr} {v : Value} (hb : Below w.heap.size w w') (h : w.cell? a = some v) : w'.cell? a = some v := (hb.cell (World.block_lt_of_cell? _ _ h)).trans h
theorem zl1 {α : Type} (l : List α) (i : Nat) (a : α) : l.toArray.setIfInBounds i a = (l.set i a).toArray := List.setIfInBounds_toArray ..
theorem zl2 {α : Type} (x : α) (l : List α) (a : α) : (x :: l).set 0 a = a :: l := rfl
theorem zl3 {α : Type} (x : α) (l : List α) (n : Nat) (a : α) : (x :: l).set (n + 1) a = x :: l.set n a := rfl
mutual
def hallmarklaw07_CfgNext.l0 : Nat → List (List Int) → Int → Int → List (S34) → Option (Bool)
 | 0, _, _, _, _ => none
 | k + 1, x3, x4, x206000, x206001 => if x4 < (x206001.length : Int) then (if 0 ≤ x4 then ((cfg_Targets.f ((rd_T34 x206001 x4).f2.f0) ((rd_T34 x206001 x4).f2.f1) ((rd_T34 x206001 x4).f2.f2) ((rd_T34 x206001 x4).f2.f3) ((rd_T34 x206001 x4).f2.f4) ((rd_T34 x206001 x4).f2.f5)).bind fun t215 => ((hallmarkref07_Targets.f k ((rd_T34 x206001 x4).f2.f0) ((rd_T34 x206001 x4).f2.f1) ((rd_T34 x206001 x4).f2.f2) ((rd_T34 x206001 x4).f2.f3) ((rd_T34 x206001 x4).f2.f4) ((rd_T34 x206001 x4).f2.f5)).bind fun t219 => ((cfg_Next.f ((rd_T34 x206001 x4).f0) ((rd_T34 x206001 x4).f1) ((rd_T34 x206001 x4).f2.f0) ((rd_T34 x206001 x4).f2.f1) ((rd_T34 x206001 x4).f2.f2) ((rd_T34 x206001 x4).f2.f3) ((rd_T34 x206001 x4).f2.f4) ((rd_T34 x206001 x4).f2.f5)).bind fun t223 => ((hallmarkref07_Next.f k ((rd_T34 x206001 x4).f0) ((rd_T34 x206001 x4).f1) ((rd_T34 x206001 x4).f2.f0) ((rd_T34 x206001 x4).f2.f1) ((rd_T34 x206001 x4).f2.f2) ((rd_T34 x206001 x4).f2.f3) ((rd_T34 x206001 x4).f2.f4) ((rd_T34 x206001 x4).f2.f5)).bind fun t227 => ((hallmarkref04_Ints.f k t223 t227).bind fun t230 => (if t230 = true then (if x4 < (x3.length : Int) then ((hallmarkref07_Ahead.f k x206000 x206001 x4).bind fun t232 => ((hallmarkref04_Ints.f k (rd_L1 x3 x4) t232).bind fun t235 => (if t235 = true then (hallmarklaw07_CfgNext.j1 k x3 x4 t215 t219 ((t215.length : Int) != (t219.length : Int)) x206000 x206001) else (hallmarklaw07_CfgNext.j1 k x3 x4 t215 t219 true x206000 x206001)))) else (none)) else (hallmarklaw07_CfgNext.j1 k x3 x4 t215 t219 true x206000 x206001))))))) else (none)) else ((hallmarklaw07_lives.f k).bind fun t213 => (some t213))
def hallmarklaw07_CfgNext.j1 : Nat → List (List Int) → Int → List (S46) → List (S46) → Bool → Int → List (S34) → Option (Bool)
 | 0, _, _, _, _, _, _, _ => none
 | k + 1, x3, x4, x5, x6, x70, x206000, x206001 => if x70 = true then (some false) else (hallmarklaw07_CfgNext.l1 k x3 x4 x5 x6 0 x206000 x206001)
def hallmarklaw07_CfgNext.l1 : Nat → List (List Int) → Int → List (S46) → List (S46) → Int → Int → List (S34) → Option (Bool)
 | 0, _, _, _, _, _, _, _ => none
 | k + 1, x3, x4, x5, x6, x7, x206000, x206001 => if x7 < (x5.length : Int) then (if 0 ≤ x7 then (if x7 < (x6.length : Int) then (if ((rd_T46 x5 x7).f0) = ((rd_T46 x6 x7).f0) then ((hallmarkref04_Ints.f k ((rd_T46 x5 x7).f1) ((rd_T46 x6 x7).f1)).bind fun t240 => (if t240 = true then (hallmarklaw07_CfgNext.l1 k x3 x4 x5 x6 (wrap64 (x7 + 1)) x206000 x206001) else (some false))) else (some false)) else (none)) else (none)) else (hallmarklaw07_CfgNext.l0 k x3 (wrap64 (x4 + 1)) x206000 x206001)
end
def hallmarklaw07_CfgNext.f (k : Nat) (a0_0 : Int) (l0_1 : List (S34)) : Option (Bool) := (hallmarklaw07_few.f a0_0 l0_1).bind fun bt206 => ((cfg_Ahead.f k bt206.1 bt206.2).bind fun t210 => (if (t210.length : Int) = (bt206.2.length : Int) then (hallmarklaw07_CfgNext.l0 k t210 0 bt206.1 bt206.2) else (some false)))
theorem hallmarklaw07_CfgNext.mono_l : ∀ k, (∀ y0 y1 y2 y3, LeO (hallmarklaw07_CfgNext.l0 k y0 y1 y2 y3) (hallmarklaw07_CfgNext.l0 (k + 1) y0 y1 y2 y3)) ∧ (∀ y0 y1 y2 y3 y4 y5 y6, LeO (hallmarklaw07_CfgNext.j1 k y0 y1 y2 y3 y4 y5 y6) (hallmarklaw07_CfgNext.j1 (k + 1) y0 y1 y2 y3 y4 y5 y6)) ∧ (∀ y0 y1 y2 y3 y4 y5 y6, LeO (hallmarklaw07_CfgNext.l1 k y0 y1 y2 y3 y4 y5 y6) (hallmarklaw07_CfgNext.l1 (k + 1) y0 y1 y2 y3 y4 y5 y6))
 | 0 => ⟨fun _ _ _ _ r h => by simp [hallmarklaw07_CfgNext.l0] at h, fun _ _ _ _ _ _ _ r h => by simp [hallmarklaw07_CfgNext.j1] at h, fun _ _ _ _ _ _ _ r h => by simp [hallmarklaw07_CfgNext.l1] at h⟩
 | k + 1 => by
  obtain ⟨ih0, ih1, ih2⟩ := hallmarklaw07_CfgNext.mono_l k
  refine ⟨?_, ?_, ?_⟩
  ·intro y0 y1 y2 y3
   unfold hallmarklaw07_CfgNext.l0
   repeat' first
   | (with_reducible exact ih0 _ _ _ _)
   | (with_reducible exact ih1 _ _ _ _ _ _ _)
   | (with_reducible exact ih2 _ _ _ _ _ _ _)
   | (with_reducible exact cfg_Ahead.mono _ _ _)
   | (with_reducible exact hallmarklaw07_lives.mono _)
   | (with_reducible exact hallmarkref04_Ints.mono _ _ _)
   | (with_reducible exact hallmarkref07_Ahead.mono _ _ _ _)
   | (with_reducible exact hallmarkref07_Next.mono _ _ _ _ _ _ _ _ _)
   | (with_reducible exact hallmarkref07_Targets.mono _ _ _ _ _ _ _)
   | (with_reducible exact LeO.refl _)
   | (with_reducible exact LeO.none _)
   | (with_reducible refine LeO.ite ?_ ?_)
   | (with_reducible refine LeO.bind ?_ (fun _ => ?_))
   | exact ih0 _ _ _ _
   | exact ih1 _ _ _ _ _ _ _
   | exact ih2 _ _ _ _ _ _ _
   | exact cfg_Ahead.mono _ _ _
   | exact hallmarklaw07_lives.mono _
   | exact hallmarkref04_Ints.mono _ _ _
   | exact hallmarkref07_Ahead.mono _ _ _ _
   | exact hallmarkref07_Next.mono _ _ _ _ _ _ _ _ _
   | exact hallmarkref07_Targets.mono _ _ _ _ _ _ _
   | exact LeO.none _
   | refine LeO.ite ?_ ?_
   | refine LeO.bind ?_ (fun _ => ?_)
  ·intro y0 y1 y2 y3 y4 y5 y6
   unfold hallmarklaw07_CfgNext.j1
   repeat' first
   | (with_reducible exact ih0 _ _ _ _)
   | (with_reducible exact ih1 _ _ _ _ _ _ _)
   | (with_reducible exact ih2 _ _ _ _ _ _ _)
   | (with_reducible exact cfg_Ahead.mono _ _ _)
   | (with_reducible exact hallmarklaw07_lives.mono _)
   | (with_reducible exact hallmarkref04_Ints.mono _ _ _)
   | (with_reducible exact hallmarkref07_Ahead.mono _ _ _ _)
   | (with_reducible exact hallmarkref07_Next.mono _ _ _ _ _ _ _ _ _)
   | (with_reducible exact hallmarkref07_Targets.mono _ _ _ _ _ _ _)
   | (with_reducible exact LeO.refl _)
   | (with_reducible exact LeO.none _)
   | (with_reducible refine LeO.ite ?_ ?_)
   | (with_reducible refine LeO.bind ?_ (fun _ => ?_))
   | exact ih0 _ _ _ _
   | exact ih1 _ _ _ _ _ _ _
   | exact ih2 _ _ _ _ _ _ _
   | exact cfg_Ahead.mono _ _ _
   | exact hallmarklaw07_lives.mono _
   | exact hallmarkref04_Ints.mono _ _ _
   | exact hallmarkref07_Ahead.mono _ _ _ _
   | exact hallmarkref07_Next.mono _ _ _ _ _ _ _ _ _
   | exact hallmarkref07_Targets.mono _ _ _ _ _ _ _
   | exact LeO.none _
   | refine LeO.ite ?_ ?_
   | refine LeO.bind ?_ (fun _ => ?_)
  ·intro y0 y1 y2 y3 y4 y5 y6
   unfold hallmarklaw07_CfgNext.l1
   repeat' first
   | (with_reducible exact ih0 _ _ _ _)
   | (with_reducible exact ih1 _ _ _ _ _ _ _)
   | (with_reducible exact ih2 _ _ _ _ _ _ _)
   | (with_reducible exact cfg_Ahead.mono _ _ _)
   | (with_reducible exact hallmarklaw07_lives.mono _)
   | (with_reducible exact hallmarkref04_Ints.mono _ _ _)
   | (with_reducible exact hallmarkref07_Ahead.mono _ _ _ _)
   | (with_reducible exact hallmarkref07_Next.mono _ _ _ _ _ _ _ _ _)
   | (with_reducible exact hallmarkref07_Targets.mono _ _ _ _ _ _ _)
   | (with_reducible exact LeO.refl _)
   | (with_reducible exact LeO.none _)
   | (with_reducible refine LeO.ite ?_ ?_)
   | (with_reducible refine LeO.bind ?_ (fun _ => ?_))
   | exact ih0 _ _ _ _
   | exact ih1 _ _ _ _ _ _ _
   | exact ih2 _ _ _ _ _ _ _
   | exact cfg_Ahead.mono _ _ _
   | exact hallmarklaw07_lives.mono _
   | exact hallmarkref04_Ints.mono _ _ _
   | exact hallmarkref07_Ahead.mono _ _ _ _
   | exact hallmarkref07_Next.mono _ _ _ _ _ _ _ _ _
   | exact hallmarkref07_Targets.mono _ _ _ _ _ _ _
   | exact LeO.none _
   | refine LeO.ite ?_ ?_
   | refine LeO.bind ?_ (fun _ => ?_)
theorem hallmarklaw07_CfgNext.mono : ∀ a0 a1 k, LeO (hallmarklaw07_CfgNext.f k a0 a1) (hallmarklaw07_CfgNext.f (k + 1) a0 a1) := by
 intro a0 a1 k
 obtain ⟨ih0, ih1, ih2⟩ := hallmarklaw07_CfgNext.mono_l k
 unfold hallmarklaw07_CfgNext.f
 repeat' first
   | (with_reducible exact ih0 _ _ _ _)
   | (with_reducible exact ih1 _ _ _ _ _ _ _)
   | (with_reducible exact ih2 _ _ _ _ _ _ _)
   | (with_reducible exact cfg_Ahead.mono _ _ _)
   | (with_reducible exact hallmarklaw07_lives.mono _)
   | (with_reducible exact hallmarkref04_Ints.mono _ _ _)
   | (with_reducible exact hallmarkref07_Ahead.mono _ _ _ _)
   | (with_reducible exact hallmarkref07_Next.mono _ _ _ _ _ _ _ _ _)
   | (with_reducible exact hallmarkref07_Targets.mono _ _ _ _ _ _ _)
   | (with_reducible exact LeO.refl _)
   | (with_reducible exact LeO.none _)
   | (with_reducible refine LeO.ite ?_ ?_)
   | (with_reducible refine LeO.bind ?_ (fun _ => ?_))
   | exact ih0 _ _ _ _
   | exact ih1 _ _ _ _ _ _ _
   | exact ih2 _ _ _ _ _ _ _
   | exact cfg_Ahead.mono _ _ _
   | exact hallmarklaw07_lives.mono _
   | exact hallmarkref04_Ints.mono _ _ _
   | exact hallmarkref07_Ahead.mono _ _ _ _
   | exact hallmarkref07_Next.mono _ _ _ _ _ _ _ _ _
   | exact hallmarkref07_Targets.mono _ _ _ _ _ _ _
   | exact LeO.none _
   | refine LeO.ite ?_ ?_
   | refine LeO.bind ?_ (fun _ => ?_)
def hallmarklaw07_CfgNext.T8 : Bool × List (List Nat × List Nat) := (true, [([], []), ([0], [0]), ([], []), ([1, 2], [1, 2]), ([3], [3]), ([4], [4]), ([5], [5]), ([], []), ([7], [7]), ([], []), ([8, 9], [8, 9]), ([10], [10]), ([11], [11]), ([12, 6], [12]), ([6, 13, 0, 1, 2, 3, 4, 5, 6], [6]), ([13, 14, 0, 1, 2, 3, 4, 5, 6, 7, 8, 9, 10, 11, 12, 13, 14], [13])])
def hallmarklaw07_CfgNext.B8 : List Nat := [0, 1, 0, 7, 15, 31, 63, 0, 128, 0, 896, 1920, 3968, 8191, 16383, 32767]
theorem hallmarklaw07_CfgNext.tab8 : rtab .any (opsOf Try.f7 8) = hallmarklaw07_CfgNext.T8 := by kernel_rfl
theorem hallmarklaw07_CfgNext.bits8 : waitsOk hallmarklaw07_CfgNext.T8.2 hallmarklaw07_CfgNext.B8 = true := by kernel_rfl
def hallmarklaw07_CfgNext.T9 : Bool × List (List Nat × List Nat) := (true, [([], []), ([0], [0]), ([], []), ([1, 2], [1, 2]), ([3], [3]), ([4], [4]), ([], []), ([6], [6]), ([], []), ([7, 8], [7, 8]), ([9], [9]), ([10, 5], [10]), ([5, 11, 11], [5, 11]), ([12], [12]), ([13, 12], [13]), ([14], [14]), ([14], [14]), ([15, 16, 14], [14, 15, 16]), ([17, 14], [14, 17]), ([14], [14]), ([14], [14]), ([19, 20, 14, 14], [14, 19, 20]), ([18, 21, 21, 14], [14, 18, 21]), ([22, 14], [14, 22]), ([14, 23], [14, 23]), ([24, 22], [24]), ([25], [25]), ([26, 25], [25, 26]), ([25], [25]), ([28, 25], [25, 28]), ([27, 29, 25], [25, 27, 29]), ([25, 30], [25, 30])])
def hallmarklaw07_CfgNext.B9 : List Nat := [0, 1, 0, 7, 15, 31, 0, 64, 0, 448, 960, 2047, 4095, 8191, 16383, 32767, 32767, 131071, 262143, 32767, 32767, 1605631, 4194303, 8388607, 16777215, 33554431, 67108863, 134217727, 67108863, 335544319, 1073741823, 2147483647]
theorem hallmarklaw07_CfgNext.tab9 : rtab .any (opsOf Try.f7 9) = hallmarklaw07_CfgNext.T9 := by kernel_rfl
theorem hallmarklaw07_CfgNext.bits9 : waitsOk hallmarklaw07_CfgNext.T9.2 hallmarklaw07_CfgNext.B9 = true := by kernel_rfl
def hallmarklaw07_CfgNext.T14 : Bool × List (List Nat × List Nat) := (true, [([], []), ([], []), ([0, 1], [0, 1]), ([2], [2]), ([3], [3]), ([], []), ([], []), ([5, 6], [5, 6]), ([7], [7]), ([8], [8]), ([4, 9], [4, 9]), ([10], [10]), ([11], [11]), ([11], [11]), ([12, 13, 11], [11, 12, 13]), ([14, 11], [11, 14]), ([15, 11], [11, 15]), ([11], [11]), ([11], [11]), ([17, 18, 11], [11, 17, 18]), ([19, 11], [11, 19]), ([20, 11], [11, 20]), ([16, 21, 11, 11], [11, 16, 21]), ([22, 11], [11, 22]), ([11, 23], [11, 23])])
def hallmarklaw07_CfgNext.B14 : List Nat := [0, 0, 3, 7, 15, 0, 0, 96, 224, 480, 1023, 2047, 4095, 4095, 16383, 32767, 65535, 4095, 4095, 397311, 921599, 1970175, 4194303, 8388607, 16777215]
theorem hallmarklaw07_CfgNext.tab14 : rtab .any (opsOf Try.f7 14) = hallmarklaw07_CfgNext.T14 := by kernel_rfl
theorem hallmarklaw07_CfgNext.bits14 : waitsOk hallmarklaw07_CfgNext.T14.2 hallmarklaw07_CfgNext.B14 = true := by kernel_rfl
set_option maxHeartbeats 8000000 in
set_option maxRecDepth 100000 in
theorem hallmarklaw07_CfgNext.calls (k : Nat) (a0_0 : Int) (A0_1 : Option Addr) (c0_1 : Nat) (l0_1 : List (S34)) (r : Bool) (w : World) (hr0_1 : Kd.C k34 w A0_1 l0_1.length l0_1) (hc0_1 : l0_1.length ≤ c0_1) (h : hallmarklaw07_CfgNext.f k a0_0 l0_1 = some r) :
  Calls Try.prog 7 #[.agg #[.int .i64 a0_0, .slice A0_1 l0_1.length c0_1]] w fun e w' => e = .returned (.bool r) ∧ Below w.heap.size w w' := by
 have hu24 := Try.underlying24
 have hu32 := Try.underlying32
 have hu34 := Try.underlying34
 have HR0_1 := zm hr0_1
 have HC0_1 := zm hc0_1
 clear hr0_1 hc0_1
 have HB := zm (Below.refl w.heap.size w)
 have H : ((hallmarklaw07_few.f a0_0 l0_1).bind fun bt206 => ((cfg_Ahead.f k bt206.1 bt206.2).bind fun t210 => (if (t210.length : Int) = (bt206.2.length : Int) then (hallmarklaw07_CfgNext.l0 k t210 0 bt206.1 bt206.2) else (some false)))) = some r := h
 clear h
 replace H := Option.bind_eq_some_iff.mp H
 obtain ⟨⟨t206, t207⟩, A20, H⟩ := H
 replace H : ((cfg_Ahead.f k t206 t207).bind fun t210 => (if (t210.length : Int) = (t207.length : Int) then (hallmarklaw07_CfgNext.l0 k t210 0 t206 t207) else (some false))) = some r := H
 have A2 := zm A20
 clear A20
 replace H := Option.bind_eq_some_iff.mp H
 obtain ⟨t210, A30, H⟩ := H
 replace H : (if (t210.length : Int) = (t207.length : Int) then (hallmarklaw07_CfgNext.l0 k t210 0 t206 t207) else (some false)) = some r := H
 have A3 := zm A30
 clear A30
 by_cases c4 : (t210.length : Int) = (t207.length : Int)
 ·rw [if_pos c4] at H
  have c4b0 : ((t210.length : Int) == (t207.length : Int)) = true := beq_iff_eq.mpr c4
  have c4b1 : ((t210.length : Int) != (t207.length : Int)) = false := bne_eq_false_iff_eq.mpr c4
  have c4b2 : (t210.length == t207.length) = true := by first | simpa using c4 | (simp at c4 ⊢; omega)
  clear c4
  have H' := zm H
  clear H
  go_enter Try.func7, Try.ntmps7
  go_wp2_with (first | ((with_reducible refine gate_dst (N := 1) rfl ?_); (try (refine gate_guard (by rfl) ?_; dsimp only)); refine box_event ?hg (N := 1) ?hd (cs := #[.int .i64 a0_0, .slice A0_1 l0_1.length c0_1]) (t := 24) ?hr ?_; (case hd => rfl); (case hg => rfl); (case hr => first | (go_simp; done) | (go_simp; rfl)); intro gb205 hg w5 hbox hb; have n0_ := zm (below_step (by repeat (first | (with_reducible first | exact HB.out | apply below_alloc | apply pw_below_drewN | apply below_drew1) | exact HB.out)) hb); have n1_ := zm (hbox); have n2_ := zm ((by rw [hg]; exact (below_size (by repeat (first | (with_reducible first | exact HB.out | apply below_alloc | apply pw_below_drewN | apply below_drew1) | exact HB.out))) : w.heap.size ≤ gb205)); have n3_ := zm ((by rw [hg]; exact (below_size (by repeat (first | (with_reducible first | exact HB.out | apply below_alloc | apply pw_below_drewN | apply below_drew1) | exact HB.out))) : w.heap.size ≤ gb205)); clear HB; have HB := n0_; have BK205 := n1_; have GW205 := n2_; have GE205 := n3_; clear n0_ n1_ n2_ n3_; clear hb hbox hg; have hcz6_0 : w5.cell? ⟨gb205, 0, none⟩ = some (.int .i64 a0_0) := (blk_cell BK205.out 0).trans rfl; have hcz6_1 : w5.cell? ⟨gb205, 1, none⟩ = some (.slice A0_1 l0_1.length c0_1) := (blk_cell BK205.out 1).trans rfl; have hfz6_0 := blk_frozen BK205.out 0; have hfz6_1 := blk_frozen BK205.out 1) | ((with_reducible refine gate_callee (f := 8) rfl ?_); refine goesL_ (some 9) rfl rfl Try.func8 (by kernel_rfl) rfl #[.agg #[.int .i64 a0_0, .slice A0_1 l0_1.length c0_1]] rfl (by (try simp only [List.map_toArray, List.map_cons, List.map_nil]); first | done | rfl | (simp only [List.length_drop, List.length_take]; rfl)) ?_; (with_reducible refine (hallmarklaw07_few.calls a0_0 (fun k_ => k_ < w.heap.size) _ _ l0_1 t206 t207 _ ?side1 A2.out).mono ?_); (case side1 => exact Kd.V_mk HC0_1.out (Kd.F_below (Kd.C_F k34_heap HR0_1.out) (by repeat (first | (with_reducible first | exact HB.out | apply below_alloc | apply pw_below_drewN | apply below_drew1 | refine below_set ?_ GE205.out) | exact HB.out)))); rintro e w7 ⟨v208, rfl, ho0, hb⟩; refine ⟨_, rfl, ?_⟩; have n0_ := zm (Kd.V_lower (Kd.V_mono (ok' := fun k_ => k_ ≠ gb205) ho0 (fun k_ hk_ => Or.elim hk_ (fun hs_ => fun e_ => Nat.not_le.2 hs_ (by rw [e_]; exact GW205.out)) (fun hn_ => (Kd.freshB (g := gb205) (o := .cells #[.int .i64 a0_0, .slice A0_1 l0_1.length c0_1] 24 (0, 0)) (by (with_reducible repeat (first | refine blk_drewN ?_ _ | refine blk_drew ?_ | refine blk_alloc ?_ _)); exact BK205.out) k_ hn_)))) (below_size (by repeat (first | (with_reducible first | exact HB.out | apply below_alloc | apply pw_below_drewN | apply below_drew1 | refine below_set ?_ GE205.out) | exact HB.out)))); have n1_ := zm (blk_below (g := gb205) (o := .cells #[.int .i64 a0_0, .slice A0_1 l0_1.length c0_1] 24 (0, 0)) (by (with_reducible repeat (first | refine blk_drewN ?_ _ | refine blk_drew ?_ | refine blk_alloc ?_ _)); exact BK205.out) hb); have n2_ := zm (below_step (by repeat (first | (with_reducible first | exact HB.out | apply below_alloc | apply pw_below_drewN | apply below_drew1 | refine below_set ?_ GE205.out) | exact HB.out)) hb); clear BK205; clear HB; have HO209 := n0_; have BK205 := n1_; have HB := n2_; clear n0_ n1_ n2_; (try clear hb); (try clear hb2); (try clear hk); (try clear hi); (try clear ho0); have hcz8_0 : w7.cell? ⟨gb205, 0, none⟩ = some (.int .i64 a0_0) := (blk_cell BK205.out 0).trans rfl; have hcz8_1 : w7.cell? ⟨gb205, 1, none⟩ = some (.slice A0_1 l0_1.length c0_1) := (blk_cell BK205.out 1).trans rfl; have hfz8_0 := blk_frozen BK205.out 0; have hfz8_1 := blk_frozen BK205.out 1; obtain ⟨Ao9, co9, eo9⟩ := Kd.V_slice HO209.out; subst eo9) | ((with_reducible refine gate_callee (f := 18) rfl ?_); refine goesL_ (some 11) rfl rfl Try.func18 (by kernel_rfl) rfl #[.agg #[.int .i64 t206, .slice Ao9 t207.length co9]] rfl (by (try simp only [List.map_toArray, List.map_cons, List.map_nil]); first | done | rfl | (simp only [List.length_drop, List.length_take]; rfl)) ?_; (with_reducible refine (cfg_Ahead.calls k t206 _ _ t207 t210 _ ?side1 ?side2 A3.out).mono ?_); (case side1 => refine (Kd.V_reads' (e := 34) (base := w.heap.size) (ok := fun k_ => k_ ≠ gb205) (n := t207.length) (c := co9) ?_).2.2; exact (by (with_reducible repeat (first | apply Kd.V_alloc | apply Kd.V_drewN | apply Kd.V_drew)); exact (Kd.V_mono (Kd.V_far (p := ⟨gb205, 1, none⟩) (Kd.V_far (p := ⟨gb205, 0, none⟩) (Kd.V_mono HO209.out (fun k_ hk => (⟨hk, hk⟩ : _ ∧ k_ ≠ gb205))) (fun _ hk => hk.2) (.int .i64 t206)) (fun _ hk => hk.2) (.slice Ao9 t207.length co9)) (fun _ h_ => h_.1)))); (case side2 => exact (Kd.V_reads' HO209.out).2.1); rintro e w10 ⟨v211, rfl, ho0, hb⟩; refine ⟨_, rfl, ?_⟩; have n0_ := zm (Kd.V_elder' (by (with_reducible repeat (first | apply Kd.V_alloc | apply Kd.V_drewN | apply Kd.V_drew)); exact (Kd.V_mono (Kd.V_far (p := ⟨gb205, 1, none⟩) (Kd.V_far (p := ⟨gb205, 0, none⟩) (Kd.V_mono HO209.out (fun k_ hk => (⟨hk, hk⟩ : _ ∧ k_ ≠ gb205))) (fun _ hk => hk.2) (.int .i64 t206)) (fun _ hk => hk.2) (.slice Ao9 t207.length co9)) (fun _ h_ => h_.1))) (Kd.S_base ho0) hb); have n1_ := zm (Kd.N_lower (Kd.N_mono (ok' := fun k_ => k_ ≠ gb205) (Kd.S_N (Kd.S_bound ho0)) (fun k_ hk_ => (Kd.freshB (g := gb205) (o := .cells #[.int .i64 t206, .slice Ao9 t207.length co9] 24 (0, 0)) (by (with_reducible repeat (first | refine blk_drewN ?_ _ | refine blk_drew ?_ | refine blk_alloc ?_ _)); refine blk_put (cs := #[.int .i64 t206, .slice A0_1 l0_1.length c0_1]) ?_ 1 _ rfl; (with_reducible repeat (first | refine blk_drewN ?_ _ | refine blk_drew ?_ | refine blk_alloc ?_ _)); refine blk_put (cs := #[.int .i64 a0_0, .slice A0_1 l0_1.length c0_1]) ?_ 0 _ rfl; (with_reducible repeat (first | refine blk_drewN ?_ _ | refine blk_drew ?_ | refine blk_alloc ?_ _)); exact BK205.out) k_ hk_.2.1))) (below_size (by repeat (first | (with_reducible first | exact HB.out | apply below_alloc | apply pw_below_drewN | apply below_drew1 | refine below_set ?_ GE205.out) | exact HB.out)))); have n2_ := zm (blk_below (g := gb205) (o := .cells #[.int .i64 t206, .slice Ao9 t207.length co9] 24 (0, 0)) (by (with_reducible repeat (first | refine blk_drewN ?_ _ | refine blk_drew ?_ | refine blk_alloc ?_ _)); refine blk_put (cs := #[.int .i64 t206, .slice A0_1 l0_1.length c0_1]) ?_ 1 _ rfl; (with_reducible repeat (first | refine blk_drewN ?_ _ | refine blk_drew ?_ | refine blk_alloc ?_ _)); refine blk_put (cs := #[.int .i64 a0_0, .slice A0_1 l0_1.length c0_1]) ?_ 0 _ rfl; (with_reducible repeat (first | refine blk_drewN ?_ _ | refine blk_drew ?_ | refine blk_alloc ?_ _)); exact BK205.out) hb); have n3_ := zm (below_step (by repeat (first | (with_reducible first | exact HB.out | apply below_alloc | apply pw_below_drewN | apply below_drew1 | refine below_set ?_ GE205.out) | exact HB.out)) hb); clear HO209; clear BK205; clear HB; have HO209 := n0_; have HO212 := n1_; have BK205 := n2_; have HB := n3_; clear n0_ n1_ n2_ n3_; (try clear hb); (try clear hb2); (try clear hk); (try clear hi); (try clear ho0); obtain ⟨Ao11, co11, eo11⟩ := Kd.N_slice HO212.out; subst eo11; have hcz12_0 : w10.cell? ⟨gb205, 0, none⟩ = some (.int .i64 t206) := (blk_cell BK205.out 0).trans rfl; have hcz12_1 : w10.cell? ⟨gb205, 1, none⟩ = some (.slice Ao9 t207.length co9) := (blk_cell BK205.out 1).trans rfl; have hfz12_0 := blk_frozen BK205.out 0; have hfz12_1 := blk_frozen BK205.out 1))
  go_loopg [4] k (fun kq v4 w' => ∃ (x4_1 : Int), v4 = .int .i64 x4_1 ∧ Aside0 (hallmarklaw07_CfgNext.l0 kq t210 x4_1 t206 t207 = some r) ∧ Aside0 (kq ≤ k) ∧ Aside0 (Kd.N (Kd.slice 3 (Kd.int .i64)) 26 w' w.heap.size (fun k_ => k_ ≠ gb205) (.slice Ao11 t210.length co11) t210) ∧ Aside0 (Kd.V k34 34 w' w.heap.size (fun k_ => some k_ ≠ ((.slice Ao11 t210.length co11) : Value).ownBlock ∧ k_ ≠ gb205) (.slice Ao9 t207.length co9) t207) ∧ Aside0 (w'.heap[gb205]? = some (.cells #[.int .i64 t206, (.slice Ao9 t207.length co9)] 24 (0, 0))) ∧ Aside0 (Below w.heap.size w w'))
  case atStart => exact ⟨(0), (by first | rfl | (simp; done) | (simp [*]; done)), H', ⟨Nat.le_refl _⟩, ⟨by (with_reducible repeat (first | apply Kd.N_alloc | apply Kd.N_drewN | apply Kd.N_drew)); exact HO212.out⟩, ⟨by (with_reducible repeat (first | apply Kd.V_alloc | apply Kd.V_drewN | apply Kd.V_drew)); exact Kd.V_mono HO209.out (fun _ hk => ⟨hk.2, hk.1⟩)⟩, ⟨by (with_reducible repeat (first | refine blk_drewN ?_ _ | refine blk_drew ?_ | refine blk_alloc ?_ _)); exact BK205.out⟩, ⟨by repeat (first | (with_reducible first | exact HB.out | apply below_alloc | apply pw_below_drewN | apply below_drew1 | refine below_set ?_ GE205.out) | exact HB.out)⟩⟩
  case round =>
   clear H'
   try clear c1
   try clear p2
   try clear c4
   try clear c4b0
   try clear c4b1
   try clear c4b2
   try clear c7
   try clear c8
   try clear hcz12_0
   try clear hcz12_1
   try clear hcz6_0
   try clear hcz6_1
   try clear hcz8_0
   try clear hcz8_1
   try clear hfz12_0
   try clear hfz12_1
   try clear hfz6_0
   try clear hfz6_1
   try clear hfz8_0
   try clear hfz8_1
   obtain ⟨x4_1, rfl, HA, HK1, HO_3, HO_206001, BK205, HB⟩ := hrel
   cases gk with
   | zero => exact absurd HA.out (by simp [hallmarklaw07_CfgNext.l0])
   | succ k1 =>
    have H := HA.out
    clear HA
    simp only [hallmarklaw07_CfgNext.l0] at H
    by_cases c13 : x4_1 < (t207.length : Int)
    ·rw [if_pos c13] at H
     have c13b0 : decide (x4_1 < (t207.length : Int)) = true := decide_eq_true c13
     clear c13
     by_cases c14 : 0 ≤ x4_1
     ·rw [if_pos c14] at H
      have c14b0 : decide (0 ≤ x4_1) = true := decide_eq_true c14
      clear c14
      replace H := Option.bind_eq_some_iff.mp H
      obtain ⟨t215, A150, H⟩ := H
      replace H : ((hallmarkref07_Targets.f k1 ((rd_T34 t207 x4_1).f2.f0) ((rd_T34 t207 x4_1).f2.f1) ((rd_T34 t207 x4_1).f2.f2) ((rd_T34 t207 x4_1).f2.f3) ((rd_T34 t207 x4_1).f2.f4) ((rd_T34 t207 x4_1).f2.f5)).bind fun t219 => ((cfg_Next.f ((rd_T34 t207 x4_1).f0) ((rd_T34 t207 x4_1).f1) ((rd_T34 t207 x4_1).f2.f0) ((rd_T34 t207 x4_1).f2.f1) ((rd_T34 t207 x4_1).f2.f2) ((rd_T34 t207 x4_1).f2.f3) ((rd_T34 t207 x4_1).f2.f4) ((rd_T34 t207 x4_1).f2.f5)).bind fun t223 => ((hallmarkref07_Next.f k1 ((rd_T34 t207 x4_1).f0) ((rd_T34 t207 x4_1).f1) ((rd_T34 t207 x4_1).f2.f0) ((rd_T34 t207 x4_1).f2.f1) ((rd_T34 t207 x4_1).f2.f2) ((rd_T34 t207 x4_1).f2.f3) ((rd_T34 t207 x4_1).f2.f4) ((rd_T34 t207 x4_1).f2.f5)).bind fun t227 => ((hallmarkref04_Ints.f k1 t223 t227).bind fun t230 => (if t230 = true then (if x4_1 < (t210.length : Int) then ((hallmarkref07_Ahead.f k1 t206 t207 x4_1).bind fun t232 => ((hallmarkref04_Ints.f k1 (rd_L1 t210 x4_1) t232).bind fun t235 => (if t235 = true then (hallmarklaw07_CfgNext.j1 k1 t210 x4_1 t215 t219 ((t215.length : Int) != (t219.length : Int)) t206 t207) else (hallmarklaw07_CfgNext.j1 k1 t210 x4_1 t215 t219 true t206 t207)))) else (none)) else (hallmarklaw07_CfgNext.j1 k1 t210 x4_1 t215 t219 true t206 t207)))))) = some r := H
      have A15 := zm A150
      clear A150
      replace H := Option.bind_eq_some_iff.mp H
      obtain ⟨t219, A160, H⟩ := H
      replace H : ((cfg_Next.f ((rd_T34 t207 x4_1).f0) ((rd_T34 t207 x4_1).f1) ((rd_T34 t207 x4_1).f2.f0) ((rd_T34 t207 x4_1).f2.f1) ((rd_T34 t207 x4_1).f2.f2) ((rd_T34 t207 x4_1).f2.f3) ((rd_T34 t207 x4_1).f2.f4) ((rd_T34 t207 x4_1).f2.f5)).bind fun t223 => ((hallmarkref07_Next.f k1 ((rd_T34 t207 x4_1).f0) ((rd_T34 t207 x4_1).f1) ((rd_T34 t207 x4_1).f2.f0) ((rd_T34 t207 x4_1).f2.f1) ((rd_T34 t207 x4_1).f2.f2) ((rd_T34 t207 x4_1).f2.f3) ((rd_T34 t207 x4_1).f2.f4) ((rd_T34 t207 x4_1).f2.f5)).bind fun t227 => ((hallmarkref04_Ints.f k1 t223 t227).bind fun t230 => (if t230 = true then (if x4_1 < (t210.length : Int) then ((hallmarkref07_Ahead.f k1 t206 t207 x4_1).bind fun t232 => ((hallmarkref04_Ints.f k1 (rd_L1 t210 x4_1) t232).bind fun t235 => (if t235 = true then (hallmarklaw07_CfgNext.j1 k1 t210 x4_1 t215 t219 ((t215.length : Int) != (t219.length : Int)) t206 t207) else (hallmarklaw07_CfgNext.j1 k1 t210 x4_1 t215 t219 true t206 t207)))) else (none)) else (hallmarklaw07_CfgNext.j1 k1 t210 x4_1 t215 t219 true t206 t207))))) = some r := H
      have A16 := zm A160
      clear A160
      have HC17 := zm H
      clear H
      have hcz18_0 : wr.cell? ⟨gb205, 0, none⟩ = some (.int .i64 t206) := (blk_cell BK205.out 0).trans rfl
      have hcz18_1 : wr.cell? ⟨gb205, 1, none⟩ = some (.slice Ao9 t207.length co9) := (blk_cell BK205.out 1).trans rfl
      have hfz18_0 := blk_frozen BK205.out 0
      have hfz18_1 := blk_frozen BK205.out 1
      try go_wp2
      replace HO_3 := zm (Kd.N_drew HO_3.out)
      replace HO_206001 := zm (Kd.V_drew HO_206001.out)
      replace BK205 := zm (blk_drew BK205.out)
      replace HB := zm (below_drew1 HB.out)
      have p214 : 0 ≤ (x4_1 : Int) := of_decide_eq_true (by first | (with_reducible assumption) | assumption)
      have q214 : x4_1 < (t207.length : Int) := of_decide_eq_true (by first | (with_reducible assumption) | assumption)
      obtain ⟨ad214, A214_0, c214_0, A214_1, c214_1, A214_6, c214_6, A214_7, c214_7, e214, hx214_0, hx214_1, hx214_2, hx214_3, hx214_4, hx214_5, hx214_6, hx214_7, hl214_0, hi214_0, hl214_1, hi214_1, hl214_6, hi214_6, hl214_7, hi214_7⟩ := at_T34 (Kd.V_reads' HO_206001.out).2.2 x4_1 p214 q214
      cases e214
      obtain ⟨ce214, hce214, hMe214, hcc214⟩ := Kd.V_get HO_206001.out z34 x4_1 p214 (by first | exact q214 | exact of_decide_eq_true (by first | (with_reducible assumption) | assumption) | (have e_ := (Kd.V_reads' HO_206001.out).1; omega))
      obtain ⟨ua214_0, uc214_0, ua214_1, uc214_1, ua214_6, uc214_6, ua214_7, uc214_7, rfl, ul214_0, ge214_0, ul214_1, ge214_1, ul214_6, ge214_6, ul214_7, ge214_7⟩ := k34_openF hMe214
      have hv214_0 := hcc214 0 _ rfl
      rw [Nat.add_zero] at hv214_0
      replace hv214_0 := Option.some.inj (hv214_0.symm.trans hx214_0)
      injection hv214_0 with hva_ hvn_ hvc_
      rw [hva_] at ge214_0
      rw [hvc_] at ul214_0
      have HL214_0 := zm (show Kd.V (Kd.int .i64) 3 _ w.heap.size _ _ ((rd_T34 t207 x4_1).f0) from Kd.V_mk ul214_0 ge214_0)
      clear hva_ hvn_ hvc_ ge214_0 ul214_0
      have hv214_1 := hcc214 1 _ rfl
      rw [add_field _ _ 1 (by omega)] at hv214_1
      replace hv214_1 := Option.some.inj (hv214_1.symm.trans hx214_1)
      injection hv214_1 with hva_ hvn_ hvc_
      rw [hva_] at ge214_1
      rw [hvc_] at ul214_1
      have HL214_1 := zm (show Kd.V k84 84 _ w.heap.size _ _ ((rd_T34 t207 x4_1).f1) from Kd.V_mk ul214_1 ge214_1)
      clear hva_ hvn_ hvc_ ge214_1 ul214_1
      have hv214_6 := hcc214 6 _ rfl
      rw [add_field _ _ 6 (by omega)] at hv214_6
      replace hv214_6 := Option.some.inj (hv214_6.symm.trans hx214_6)
      injection hv214_6 with hva_ hvn_ hvc_
      rw [hva_] at ge214_6
      rw [hvc_] at ul214_6
      have HL214_6 := zm (show Kd.V (Kd.int .i64) 3 _ w.heap.size _ _ ((rd_T34 t207 x4_1).f2.f4) from Kd.V_mk ul214_6 ge214_6)
      clear hva_ hvn_ hvc_ ge214_6 ul214_6
      have hv214_7 := hcc214 7 _ rfl
      rw [add_field _ _ 7 (by omega)] at hv214_7
      replace hv214_7 := Option.some.inj (hv214_7.symm.trans hx214_7)
      injection hv214_7 with hva_ hvn_ hvc_
      rw [hva_] at ge214_7
      rw [hvc_] at ul214_7
      have HL214_7 := zm (show Kd.V (Kd.int .i64) 3 _ w.heap.size _ _ ((rd_T34 t207 x4_1).f2.f5) from Kd.V_mk ul214_7 ge214_7)
      clear hva_ hvn_ hvc_ ge214_7 ul214_7
      clear hcc214 hce214
      have HR214_0 := zm hi214_0
      have HC214_0 := zm hl214_0
      clear hi214_0 hl214_0
      have HR214_1 := zm hi214_1
      have HC214_1 := zm hl214_1
      clear hi214_1 hl214_1
      have HR214_6 := zm hi214_6
      have HC214_6 := zm hl214_6
      clear hi214_6 hl214_6
      have HR214_7 := zm hi214_7
      have HC214_7 := zm hl214_7
      clear hi214_7 hl214_7
      replace p214 := eq_true p214
      replace q214 := eq_true q214
      have p218 : 0 ≤ (x4_1 : Int) := of_decide_eq_true (by first | (with_reducible assumption) | assumption)
      have q218 : x4_1 < (t207.length : Int) := of_decide_eq_true (by first | (with_reducible assumption) | assumption)
      obtain ⟨ad218, A218_0, c218_0, A218_1, c218_1, A218_6, c218_6, A218_7, c218_7, e218, hx218_0, hx218_1, hx218_2, hx218_3, hx218_4, hx218_5, hx218_6, hx218_7, hl218_0, hi218_0, hl218_1, hi218_1, hl218_6, hi218_6, hl218_7, hi218_7⟩ := at_T34 (Kd.V_reads' HO_206001.out).2.2 x4_1 p218 q218
      obtain rfl : ad214 = ad218 := (by injection e218)
      obtain ⟨ce218, hce218, hMe218, hcc218⟩ := Kd.V_get HO_206001.out z34 x4_1 p218 (by first | exact q218 | exact of_decide_eq_true (by first | (with_reducible assumption) | assumption) | (have e_ := (Kd.V_reads' HO_206001.out).1; omega))
      obtain ⟨ua218_0, uc218_0, ua218_1, uc218_1, ua218_6, uc218_6, ua218_7, uc218_7, rfl, ul218_0, ge218_0, ul218_1, ge218_1, ul218_6, ge218_6, ul218_7, ge218_7⟩ := k34_openF hMe218
      have hv218_0 := hcc218 0 _ rfl
      rw [Nat.add_zero] at hv218_0
      replace hv218_0 := Option.some.inj (hv218_0.symm.trans hx218_0)
      injection hv218_0 with hva_ hvn_ hvc_
      rw [hva_] at ge218_0
      rw [hvc_] at ul218_0
      have HL218_0 := zm (show Kd.V (Kd.int .i64) 3 _ w.heap.size _ _ ((rd_T34 t207 x4_1).f0) from Kd.V_mk ul218_0 ge218_0)
      clear hva_ hvn_ hvc_ ge218_0 ul218_0
      have hv218_1 := hcc218 1 _ rfl
      rw [add_field _ _ 1 (by omega)] at hv218_1
      replace hv218_1 := Option.some.inj (hv218_1.symm.trans hx218_1)
      injection hv218_1 with hva_ hvn_ hvc_
      rw [hva_] at ge218_1
      rw [hvc_] at ul218_1
      have HL218_1 := zm (show Kd.V k84 84 _ w.heap.size _ _ ((rd_T34 t207 x4_1).f1) from Kd.V_mk ul218_1 ge218_1)
      clear hva_ hvn_ hvc_ ge218_1 ul218_1
      have hv218_6 := hcc218 6 _ rfl
      rw [add_field _ _ 6 (by omega)] at hv218_6
      replace hv218_6 := Option.some.inj (hv218_6.symm.trans hx218_6)
      injection hv218_6 with hva_ hvn_ hvc_
      rw [hva_] at ge218_6
      rw [hvc_] at ul218_6
      have HL218_6 := zm (show Kd.V (Kd.int .i64) 3 _ w.heap.size _ _ ((rd_T34 t207 x4_1).f2.f4) from Kd.V_mk ul218_6 ge218_6)
      clear hva_ hvn_ hvc_ ge218_6 ul218_6
      have hv218_7 := hcc218 7 _ rfl
      rw [add_field _ _ 7 (by omega)] at hv218_7
      replace hv218_7 := Option.some.inj (hv218_7.symm.trans hx218_7)
      injection hv218_7 with hva_ hvn_ hvc_
      rw [hva_] at ge218_7
      rw [hvc_] at ul218_7
      have HL218_7 := zm (show Kd.V (Kd.int .i64) 3 _ w.heap.size _ _ ((rd_T34 t207 x4_1).f2.f5) from Kd.V_mk ul218_7 ge218_7)
      clear hva_ hvn_ hvc_ ge218_7 ul218_7
      clear hcc218 hce218
      have HR218_0 := zm hi218_0
      have HC218_0 := zm hl218_0
      clear hi218_0 hl218_0
      have HR218_1 := zm hi218_1
      have HC218_1 := zm hl218_1
      clear hi218_1 hl218_1
      have HR218_6 := zm hi218_6
      have HC218_6 := zm hl218_6
      clear hi218_6 hl218_6
      have HR218_7 := zm hi218_7
      have HC218_7 := zm hl218_7
      clear hi218_7 hl218_7
      replace p218 := eq_true p218
      replace q218 := eq_true q218
      have ea_ := Option.some.inj (hx214_0.symm.trans hx218_0)
      injection ea_ with ea_ en_ ec_
      subst ea_
      subst ec_
      clear en_
      have ea_ := Option.some.inj (hx214_1.symm.trans hx218_1)
      injection ea_ with ea_ en_ ec_
      subst ea_
      subst ec_
      clear en_
      have ea_ := Option.some.inj (hx214_6.symm.trans hx218_6)
      injection ea_ with ea_ en_ ec_
      subst ea_
      subst ec_
      clear en_
      have ea_ := Option.some.inj (hx214_7.symm.trans hx218_7)
      injection ea_ with ea_ en_ ec_
      subst ea_
      subst ec_
      clear en_
      refine start_ (n := 16) (S := fun w' => w'.cell? ⟨gb205, 0, none⟩ = some (.int .i64 t206) ∧ w'.cell? ⟨gb205, 1, none⟩ = some (.slice (some ad214) t207.length co9) ∧ w'.cell? (ad214.add ((x4_1).toNat * 8)) = some (.slice A214_0 ((rd_T34 t207 x4_1).f0).length c214_0) ∧ w'.cell? ⟨(ad214.add ((x4_1).toNat * 8)).block, (ad214.add ((x4_1).toNat * 8)).off + 1, none⟩ = some (.slice A214_1 ((rd_T34 t207 x4_1).f1).length c214_1) ∧ w'.cell? ⟨(ad214.add ((x4_1).toNat * 8)).block, (ad214.add ((x4_1).toNat * 8)).off + 2, none⟩ = some (.int .i64 ((rd_T34 t207 x4_1).f2.f0)) ∧ w'.cell? ⟨(ad214.add ((x4_1).toNat * 8)).block, (ad214.add ((x4_1).toNat * 8)).off + 3, none⟩ = some (.int .i64 ((rd_T34 t207 x4_1).f2.f1)) ∧ w'.cell? ⟨(ad214.add ((x4_1).toNat * 8)).block, (ad214.add ((x4_1).toNat * 8)).off + 4, none⟩ = some (.int .i64 ((rd_T34 t207 x4_1).f2.f2)) ∧ w'.cell? ⟨(ad214.add ((x4_1).toNat * 8)).block, (ad214.add ((x4_1).toNat * 8)).off + 5, none⟩ = some (.int .i64 ((rd_T34 t207 x4_1).f2.f3)) ∧ w'.cell? ⟨(ad214.add ((x4_1).toNat * 8)).block, (ad214.add ((x4_1).toNat * 8)).off + 6, none⟩ = some (.slice A214_6 ((rd_T34 t207 x4_1).f2.f4).length c214_6) ∧ w'.cell? ⟨(ad214.add ((x4_1).toNat * 8)).block, (ad214.add ((x4_1).toNat * 8)).off + 7, none⟩ = some (.slice A214_7 ((rd_T34 t207 x4_1).f2.f5).length c214_7) ∧ w'.cell? (ad214.add ((x4_1).toNat * 8)) = some (.slice A214_0 ((rd_T34 t207 x4_1).f0).length c214_0) ∧ w'.cell? ⟨(ad214.add ((x4_1).toNat * 8)).block, (ad214.add ((x4_1).toNat * 8)).off + 1, none⟩ = some (.slice A214_1 ((rd_T34 t207 x4_1).f1).length c214_1) ∧ w'.cell? ⟨(ad214.add ((x4_1).toNat * 8)).block, (ad214.add ((x4_1).toNat * 8)).off + 2, none⟩ = some (.int .i64 ((rd_T34 t207 x4_1).f2.f0)) ∧ w'.cell? ⟨(ad214.add ((x4_1).toNat * 8)).block, (ad214.add ((x4_1).toNat * 8)).off + 3, none⟩ = some (.int .i64 ((rd_T34 t207 x4_1).f2.f1)) ∧ w'.cell? ⟨(ad214.add ((x4_1).toNat * 8)).block, (ad214.add ((x4_1).toNat * 8)).off + 4, none⟩ = some (.int .i64 ((rd_T34 t207 x4_1).f2.f2)) ∧ w'.cell? ⟨(ad214.add ((x4_1).toNat * 8)).block, (ad214.add ((x4_1).toNat * 8)).off + 5, none⟩ = some (.int .i64 ((rd_T34 t207 x4_1).f2.f3)) ∧ w'.cell? ⟨(ad214.add ((x4_1).toNat * 8)).block, (ad214.add ((x4_1).toNat * 8)).off + 6, none⟩ = some (.slice A214_6 ((rd_T34 t207 x4_1).f2.f4).length c214_6) ∧ w'.cell? ⟨(ad214.add ((x4_1).toNat * 8)).block, (ad214.add ((x4_1).toNat * 8)).off + 7, none⟩ = some (.slice A214_7 ((rd_T34 t207 x4_1).f2.f5).length c214_7)) (ds := []) #[Z,Z,Z,Z,Z,Z,Z,Z,Z,Z,Z,Z,Z,Z,Z,Z] (by kernel_rfl) rfl rfl ⟨(blk_cell BK205.out 0).trans rfl, (blk_cell BK205.out 1).trans rfl, hx214_0, hx214_1, hx214_2, hx214_3, hx214_4, hx214_5, hx214_6, hx214_7, hx218_0, hx218_1, hx218_2, hx218_3, hx218_4, hx218_5, hx218_6, hx218_7⟩ (fun hHeld => ?_); refine with_tabW hallmarklaw07_CfgNext.tab8 hallmarklaw07_CfgNext.bits8 (fun HT_ HW_ => ?_)
      generalize wr.drew = w19 at HO_3 HO_206001 BK205 HB HL214_0 HL214_1 HL214_6 HL214_7 HL218_0 HL218_1 HL218_6 HL218_7 HR214_0 HR214_1 HR214_6 HR214_7 HR218_0 HR218_1 HR218_6 HR218_7 hx214_0 hx214_1 hx214_2 hx214_3 hx214_4 hx214_5 hx214_6 hx214_7 hx218_0 hx218_1 hx218_2 hx218_3 hx218_4 hx218_5 hx218_6 hx218_7 hHeld ⊢
      refine pure_ (i := 0) (N := some 25) (v := ?_) (a' := ?_) #[Y,Z,Z,Z,Z,Z,Z,Z,Z,Z,Z,Z,Z,Z,Z,Z] rfl rfl (any_of HT_.out (by kernel_rfl)) (fun _ _ _ h => h) (Or.inl ⟨by rfl, ?_⟩) ?_ ?_
      rotate_left
      ·intro w'
       go_simp
       with_reducible rfl
      rotate_left
      ·simp only [Act.put, zl1, zl2, zl3, i64_w, i32_w]
       rfl
      refine pure_ (i := 2) (N := some 27) (v := ?_) (a' := ?_) #[Y,Z,Y,Z,Z,Z,Z,Z,Z,Z,Z,Z,Z,Z,Z,Z] rfl rfl (any_of HT_.out (by kernel_rfl)) (fun _ _ _ h => h) (Or.inl ⟨by rfl, ?_⟩) ?_ ?_
      rotate_left
      ·intro w'
       go_simp
       with_reducible rfl
      rotate_left
      ·simp only [Act.put, zl1, zl2, zl3, i64_w, i32_w]
       rfl
      refine pure_ (i := 7) (N := some 32) (v := ?_) (a' := ?_) #[Y,Z,Y,Z,Z,Z,Z,Y,Z,Z,Z,Z,Z,Z,Z,Z] rfl rfl (any_of HT_.out (by kernel_rfl)) (fun _ _ _ h => h) (Or.inl ⟨by rfl, ?_⟩) ?_ ?_
      rotate_left
      ·intro w'
       go_simp
       with_reducible rfl
      rotate_left
      ·simp only [Act.put, zl1, zl2, zl3, i64_w, i32_w]
       rfl
      refine pure_ (i := 9) (N := some 34) (v := ?_) (a' := ?_) #[Y,Z,Y,Z,Z,Z,Z,Y,Z,Y,Z,Z,Z,Z,Z,Z] rfl rfl (any_of HT_.out (by kernel_rfl)) (fun _ _ _ h => h) (Or.inl ⟨by rfl, ?_⟩) ?_ ?_
      rotate_left
      ·intro w'
       go_simp
       with_reducible rfl
      rotate_left
      ·simp only [Act.put, zl1, zl2, zl3, i64_w, i32_w]
       rfl
      refine take_ (i := 1) (N := some 26) (v := ?_) (a' := ?_) #[Y,Y,Y,Z,Z,Z,Z,Y,Z,Y,Z,Z,Z,Z,Z,Z] rfl rfl (take_ofW HT_.out HW_.out (by kernel_rfl)) (fun _ _ _ h => h) (Or.inl ⟨by rfl, ?_⟩) hHeld ?_ ?_
      rotate_left
      ·rintro w' ⟨s0, s1, s2, s3, s4, s5, s6, s7, s8, s9, s10, s11, s12, s13, s14, s15, s16, s17⟩
       go_simp
       with_reducible rfl
      rotate_left
      ·simp only [Act.put, zl1, zl2, zl3, i64_w, i32_w]
       rfl
      refine pure_ (i := 3) (N := some 28) (v := ?_) (a' := ?_) #[Y,Y,Y,Y,Z,Z,Z,Y,Z,Y,Z,Z,Z,Z,Z,Z] rfl rfl (any_of HT_.out (by kernel_rfl)) (fun _ _ _ h => h) (Or.inl ⟨by rfl, ?_⟩) ?_ ?_
      rotate_left
      ·intro w'
       go_simp
       with_reducible rfl
      rotate_left
      ·simp only [Act.put, zl1, zl2, zl3, i64_w, i32_w]
       rfl
      refine pure_ (i := 4) (N := some 29) (v := ?_) (a' := ?_) #[Y,Y,Y,Y,Y,Z,Z,Y,Z,Y,Z,Z,Z,Z,Z,Z] rfl rfl (any_of HT_.out (by kernel_rfl)) (fun _ _ _ h => h) (Or.inl ⟨by rfl, ?_⟩) ?_ ?_
      rotate_left
      ·intro w'
       go_simp
       with_reducible rfl
      rotate_left
      ·simp only [Act.put, zl1, zl2, zl3, i64_w, i32_w]
       rfl
      refine take_ (i := 5) (N := some 30) (v := ?_) (a' := ?_) #[Y,Y,Y,Y,Y,Y,Z,Y,Z,Y,Z,Z,Z,Z,Z,Z] rfl rfl (take_ofW HT_.out HW_.out (by kernel_rfl)) (fun _ _ _ h => h) (Or.inl ⟨by rfl, ?_⟩) hHeld ?_ ?_
      rotate_left
      ·rintro w' ⟨s0, s1, s2, s3, s4, s5, s6, s7, s8, s9, s10, s11, s12, s13, s14, s15, s16, s17⟩
       go_simp
       with_reducible rfl
      rotate_left
      ·simp only [Act.put, zl1, zl2, zl3, i64_w, i32_w]
       rfl
      refine take_ (i := 8) (N := some 33) (v := ?_) (a' := ?_) #[Y,Y,Y,Y,Y,Y,Z,Y,Y,Y,Z,Z,Z,Z,Z,Z] rfl rfl (take_ofW HT_.out HW_.out (by kernel_rfl)) (fun _ _ _ h => h) (Or.inl ⟨by rfl, ?_⟩) hHeld ?_ ?_
      rotate_left
      ·rintro w' ⟨s0, s1, s2, s3, s4, s5, s6, s7, s8, s9, s10, s11, s12, s13, s14, s15, s16, s17⟩
       go_simp
       with_reducible rfl
      rotate_left
      ·simp only [Act.put, zl1, zl2, zl3, i64_w, i32_w]
       rfl
      refine pure_ (i := 10) (N := some 35) (v := ?_) (a' := ?_) #[Y,Y,Y,Y,Y,Y,Z,Y,Y,Y,Y,Z,Z,Z,Z,Z] rfl rfl (any_of HT_.out (by kernel_rfl)) (fun _ _ _ h => h) (Or.inl ⟨by rfl, ?_⟩) ?_ ?_
      rotate_left
      ·intro w'
       go_simp
       with_reducible rfl
      rotate_left
      ·simp only [Act.put, zl1, zl2, zl3, i64_w, i32_w]
       rfl
      refine pure_ (i := 11) (N := some 36) (v := ?_) (a' := ?_) #[Y,Y,Y,Y,Y,Y,Z,Y,Y,Y,Y,Y,Z,Z,Z,Z] rfl rfl (any_of HT_.out (by kernel_rfl)) (fun _ _ _ h => h) (Or.inl ⟨by rfl, ?_⟩) ?_ ?_
      rotate_left
      ·intro w'
       go_simp
       with_reducible rfl
      rotate_left
      ·simp only [Act.put, zl1, zl2, zl3, i64_w, i32_w]
       rfl
      refine take_ (i := 12) (N := some 37) (v := ?_) (a' := ?_) #[Y,Y,Y,Y,Y,Y,Z,Y,Y,Y,Y,Y,Y,Z,Z,Z] rfl rfl (take_ofW HT_.out HW_.out (by kernel_rfl)) (fun _ _ _ h => h) (Or.inl ⟨by rfl, ?_⟩) hHeld ?_ ?_
      rotate_left
      ·rintro w' ⟨s0, s1, s2, s3, s4, s5, s6, s7, s8, s9, s10, s11, s12, s13, s14, s15, s16, s17⟩
       go_simp
       with_reducible rfl
      rotate_left
      ·simp only [Act.put, zl1, zl2, zl3, i64_w, i32_w]
       rfl
      refine one_ (i := 6) (N := some 31) #[Y,Y,Y,Y,Y,Y,Y,Y,Y,Y,Y,Y,Y,Z,Z,Z] rfl rfl (one_of HT_.out (by kernel_rfl)) (by decide) (fun K hK => ?_)
      refine goes_ Try.func19 (by kernel_rfl) rfl #[.agg #[.int .i64 ((rd_T34 t207 x4_1).f2.f0), .int .i64 ((rd_T34 t207 x4_1).f2.f1), .int .i64 ((rd_T34 t207 x4_1).f2.f2), .int .i64 ((rd_T34 t207 x4_1).f2.f3), .slice A214_6 ((rd_T34 t207 x4_1).f2.f4).length c214_6, .slice A214_7 ((rd_T34 t207 x4_1).f2.f5).length c214_7]] (by rfl) rfl rfl (by (try simp only [List.map_toArray, List.map_cons, List.map_nil]); first | done | rfl | (simp only [List.length_drop, List.length_take]; rfl)) ?_
      with_reducible refine (cfg_Targets.calls ((rd_T34 t207 x4_1).f2.f0) ((rd_T34 t207 x4_1).f2.f1) ((rd_T34 t207 x4_1).f2.f2) ((rd_T34 t207 x4_1).f2.f3) _ _ ((rd_T34 t207 x4_1).f2.f4) _ _ ((rd_T34 t207 x4_1).f2.f5) t215 _ ?side1 ?side2 ?side3 ?side4 A15.out).mono ?_
      (case side1 => repeat (first | exact HR214_6.out | (with_reducible refine Kd.C_alloc ?_ _) | (with_reducible refine Kd.C_drewN ?_ _) | (with_reducible refine Kd.C_drew ?_)))
      (case side2 => exact HC214_6.out)
      (case side3 => repeat (first | exact HR214_7.out | (with_reducible refine Kd.C_alloc ?_ _) | (with_reducible refine Kd.C_drewN ?_ _) | (with_reducible refine Kd.C_drew ?_)))
      (case side4 => exact HC214_7.out)
      rintro e w20 ⟨v216, rfl, ho0, hb⟩
      have HS2_ := zh hb (hHeld.2.2.1)
      have HS3_ := zh hb (hHeld.2.2.2.1)
      have HS4_ := zh hb (hHeld.2.2.2.2.1)
      have HS5_ := zh hb (hHeld.2.2.2.2.2.1)
      have HS6_ := zh hb (hHeld.2.2.2.2.2.2.1)
      have HS7_ := zh hb (hHeld.2.2.2.2.2.2.2.1)
      have HS8_ := zh hb (hHeld.2.2.2.2.2.2.2.2.1)
      have HS9_ := zh hb (hHeld.2.2.2.2.2.2.2.2.2.1)
      have HS10_ := zh hb (hHeld.2.2.2.2.2.2.2.2.2.2.1)
      have HS11_ := zh hb (hHeld.2.2.2.2.2.2.2.2.2.2.2.1)
      have HS12_ := zh hb (hHeld.2.2.2.2.2.2.2.2.2.2.2.2.1)
      have HS13_ := zh hb (hHeld.2.2.2.2.2.2.2.2.2.2.2.2.2.1)
      have HS14_ := zh hb (hHeld.2.2.2.2.2.2.2.2.2.2.2.2.2.2.1)
      have HS15_ := zh hb (hHeld.2.2.2.2.2.2.2.2.2.2.2.2.2.2.2.1)
      have HS16_ := zh hb (hHeld.2.2.2.2.2.2.2.2.2.2.2.2.2.2.2.2.1)
      have HS17_ := zh hb (hHeld.2.2.2.2.2.2.2.2.2.2.2.2.2.2.2.2.2)
      refine ⟨_, rfl, ?_⟩
      replace HO_206001 := zm (Kd.V_elder' HO_206001.out (Kd.R_base ho0) hb)
      replace HL218_6 := zm (Kd.V_elder' HL218_6.out (Kd.R_base ho0) hb)
      replace HL218_7 := zm (Kd.V_elder' HL218_7.out (Kd.R_base ho0) hb)
      have HO217 := zm (Kd.N_lower (Kd.N_mono (ok' := fun k_ => some k_ ≠ (.slice Ao11 t210.length co11 : Value).ownBlock ∧ k_ ≠ gb205) (Kd.R_N (Kd.R_bound ho0)) (fun k_ hk_ => ⟨(Kd.fresh' (Kd.N_lt HO_3.out) k_ hk_.2.1), (Kd.freshB (g := gb205) (o := .cells #[.int .i64 t206, .slice (some ad214) t207.length co9] 24 (0, 0)) BK205.out k_ hk_.2.1)⟩)) (below_size (by repeat (first | (with_reducible first | exact HB.out | apply below_alloc | apply pw_below_drewN | apply below_drew1 | refine below_set ?_ GE205.out) | exact HB.out))))
      replace HO_3 := zm (Kd.N_elder' HO_3.out (Kd.R_base ho0) hb)
      replace BK205 := zm (blk_below (g := gb205) (o := .cells #[.int .i64 t206, .slice (some ad214) t207.length co9] 24 (0, 0)) BK205.out hb)
      replace HR214_0 := zm (Kd.C_below HR214_0.out hb)
      replace HR214_1 := zm (Kd.C_below HR214_1.out hb)
      replace HR214_6 := zm (Kd.C_below HR214_6.out hb)
      replace HR214_7 := zm (Kd.C_below HR214_7.out hb)
      replace HR218_0 := zm (Kd.C_below HR218_0.out hb)
      replace HR218_1 := zm (Kd.C_below HR218_1.out hb)
      replace HR218_6 := zm (Kd.C_below HR218_6.out hb)
      replace HR218_7 := zm (Kd.C_below HR218_7.out hb)
      replace HB := zm (below_step (by repeat (first | (with_reducible first | exact HB.out | apply below_alloc | apply pw_below_drewN | apply below_drew1 | refine below_set ?_ GE205.out) | exact HB.out)) hb)
      (try clear hb)
      (try clear hb2)
      (try clear hk)
      (try clear hi)
      (try clear ho0)
      refine hK.out _ _ ⟨(blk_cell BK205.out 0).trans rfl, (blk_cell BK205.out 1).trans rfl, HS2_, HS3_, HS4_, HS5_, HS6_, HS7_, HS8_, HS9_, HS10_, HS11_, HS12_, HS13_, HS14_, HS15_, HS16_, HS17_⟩ (fun hHeld => ?_)
      clear hK K
      refine norm_ (a' := ?_) ?_ ?_
      rotate_left
      ·show Act.put _ (some 31) _ = _
       simp only [Act.put, zl1, zl2, zl3, i64_w, i32_w]
       rfl
      refine one_ (i := 13) (N := some 38) #[Y,Y,Y,Y,Y,Y,Y,Y,Y,Y,Y,Y,Y,Y,Z,Z] rfl rfl (one_of HT_.out (by kernel_rfl)) (by decide) (fun K hK => ?_)
      refine goes_ Try.func20 (by kernel_rfl) rfl #[.agg #[.int .i64 ((rd_T34 t207 x4_1).f2.f0), .int .i64 ((rd_T34 t207 x4_1).f2.f1), .int .i64 ((rd_T34 t207 x4_1).f2.f2), .int .i64 ((rd_T34 t207 x4_1).f2.f3), .slice A214_6 ((rd_T34 t207 x4_1).f2.f4).length c214_6, .slice A214_7 ((rd_T34 t207 x4_1).f2.f5).length c214_7]] (by rfl) rfl rfl (by (try simp only [List.map_toArray, List.map_cons, List.map_nil]); first | done | rfl | (simp only [List.length_drop, List.length_take]; rfl)) ?_
      with_reducible refine (hallmarkref07_Targets.calls k1 ((rd_T34 t207 x4_1).f2.f0) ((rd_T34 t207 x4_1).f2.f1) ((rd_T34 t207 x4_1).f2.f2) ((rd_T34 t207 x4_1).f2.f3) (fun k_ => ((some k_ ≠ (.slice Ao11 t210.length co11 : Value).ownBlock ∧ k_ ≠ gb205) ∧ some k_ ≠ (v216 : Value).ownBlock)) _ _ ((rd_T34 t207 x4_1).f2.f4) (fun k_ => ((some k_ ≠ (.slice Ao11 t210.length co11 : Value).ownBlock ∧ k_ ≠ gb205) ∧ some k_ ≠ (v216 : Value).ownBlock)) _ _ ((rd_T34 t207 x4_1).f2.f5) t219 _ ?side1 ?side2 A16.out).mono ?_
      (case side1 => exact HL218_6.out)
      (case side2 => exact HL218_7.out)
      rintro e w21 ⟨v220, rfl, ho0, hb⟩
      have HS2_ := zh hb (hHeld.2.2.1)
      have HS3_ := zh hb (hHeld.2.2.2.1)
      have HS4_ := zh hb (hHeld.2.2.2.2.1)
      have HS5_ := zh hb (hHeld.2.2.2.2.2.1)
      have HS6_ := zh hb (hHeld.2.2.2.2.2.2.1)
      have HS7_ := zh hb (hHeld.2.2.2.2.2.2.2.1)
      have HS8_ := zh hb (hHeld.2.2.2.2.2.2.2.2.1)
      have HS9_ := zh hb (hHeld.2.2.2.2.2.2.2.2.2.1)
      have HS10_ := zh hb (hHeld.2.2.2.2.2.2.2.2.2.2.1)
      have HS11_ := zh hb (hHeld.2.2.2.2.2.2.2.2.2.2.2.1)
      have HS12_ := zh hb (hHeld.2.2.2.2.2.2.2.2.2.2.2.2.1)
      have HS13_ := zh hb (hHeld.2.2.2.2.2.2.2.2.2.2.2.2.2.1)
      have HS14_ := zh hb (hHeld.2.2.2.2.2.2.2.2.2.2.2.2.2.2.1)
      have HS15_ := zh hb (hHeld.2.2.2.2.2.2.2.2.2.2.2.2.2.2.2.1)
      have HS16_ := zh hb (hHeld.2.2.2.2.2.2.2.2.2.2.2.2.2.2.2.2.1)
      have HS17_ := zh hb (hHeld.2.2.2.2.2.2.2.2.2.2.2.2.2.2.2.2.2)
      refine ⟨_, rfl, ?_⟩
      replace HO_206001 := zm (Kd.V_elder' HO_206001.out (Kd.N_base ho0) hb)
      have HO221 := zm (Kd.N_lower (Kd.N_mono (ok' := fun k_ => some k_ ≠ (.slice Ao11 t210.length co11 : Value).ownBlock ∧ some k_ ≠ (v216 : Value).ownBlock ∧ k_ ≠ gb205) ho0 (fun k_ hk_ => ⟨Or.elim hk_ (fun hs_ => Or.elim hs_ (fun hs_ => hs_.1.1) (fun hs_ => hs_.1.1)) (fun hn_ => (Kd.fresh' (Kd.N_lt HO_3.out) k_ hn_)), Or.elim hk_ (fun hs_ => Or.elim hs_ (fun hs_ => hs_.2) (fun hs_ => hs_.2)) (fun hn_ => (Kd.fresh' (Kd.N_lt HO217.out) k_ hn_)), Or.elim hk_ (fun hs_ => Or.elim hs_ (fun hs_ => hs_.1.2) (fun hs_ => hs_.1.2)) (fun hn_ => (Kd.freshB (g := gb205) (o := .cells #[.int .i64 t206, .slice (some ad214) t207.length co9] 24 (0, 0)) BK205.out k_ hn_))⟩)) (below_size (by repeat (first | (with_reducible first | exact HB.out | apply below_alloc | apply pw_below_drewN | apply below_drew1 | refine below_set ?_ GE205.out) | exact HB.out))))
      replace HO_3 := zm (Kd.N_elder' HO_3.out (Kd.N_base ho0) hb)
      replace HO217 := zm (Kd.N_elder' HO217.out (Kd.N_base ho0) hb)
      replace BK205 := zm (blk_below (g := gb205) (o := .cells #[.int .i64 t206, .slice (some ad214) t207.length co9] 24 (0, 0)) BK205.out hb)
      replace HR214_0 := zm (Kd.C_below HR214_0.out hb)
      replace HR214_1 := zm (Kd.C_below HR214_1.out hb)
      replace HR214_6 := zm (Kd.C_below HR214_6.out hb)
      replace HR214_7 := zm (Kd.C_below HR214_7.out hb)
      replace HR218_0 := zm (Kd.C_below HR218_0.out hb)
      replace HR218_1 := zm (Kd.C_below HR218_1.out hb)
      replace HR218_6 := zm (Kd.C_below HR218_6.out hb)
      replace HR218_7 := zm (Kd.C_below HR218_7.out hb)
      replace HB := zm (below_step (by repeat (first | (with_reducible first | exact HB.out | apply below_alloc | apply pw_below_drewN | apply below_drew1 | refine below_set ?_ GE205.out) | exact HB.out)) hb)
      (try clear hb)
      (try clear hb2)
      (try clear hk)
      (try clear hi)
      (try clear ho0)
      refine hK.out _ _ ⟨(blk_cell BK205.out 0).trans rfl, (blk_cell BK205.out 1).trans rfl, HS2_, HS3_, HS4_, HS5_, HS6_, HS7_, HS8_, HS9_, HS10_, HS11_, HS12_, HS13_, HS14_, HS15_, HS16_, HS17_⟩ (fun hHeld => ?_)
      clear hK K
      refine norm_ (a' := ?_) ?_ ?_
      rotate_left
      ·show Act.put _ (some 38) _ = _
       simp only [Act.put, zl1, zl2, zl3, i64_w, i32_w]
       rfl
      refine pure_ (i := 14) (N := some 5) (v := ?_) (a' := ?_) #[Y,Y,Y,Y,Y,Y,Y,Y,Y,Y,Y,Y,Y,Y,Y,Z] rfl rfl (any_of HT_.out (by kernel_rfl)) (fun _ _ _ h => h) (Or.inl ⟨by rfl, ?_⟩) ?_ ?_
      rotate_left
      ·intro w'
       go_simp
       with_reducible rfl
      rotate_left
      ·simp only [Act.put, zl1, zl2, zl3, i64_w, i32_w]
       rfl
      refine pure_ (i := 15) (N := some 6) (v := ?_) (a' := ?_) #[Y,Y,Y,Y,Y,Y,Y,Y,Y,Y,Y,Y,Y,Y,Y,Y] rfl rfl (any_of HT_.out (by kernel_rfl)) (fun _ _ _ h => h) (Or.inl ⟨by rfl, ?_⟩) ?_ ?_
      rotate_left
      ·intro w'
       go_simp
       with_reducible rfl
      rotate_left
      ·simp only [Act.put, zl1, zl2, zl3, i64_w, i32_w]
       rfl
      refine done_ (done_of HT_.out (by kernel_rfl)) ?_
      go_upto_region 9 with (fail)
      go_cut [70] (fun v70 wc => ∃ (kq : Nat) (x70_16 : Bool), v70 = .bool x70_16 ∧ Aside0 (hallmarklaw07_CfgNext.j1 kq t210 x4_1 t215 t219 x70_16 t206 t207 = some r) ∧ Aside0 (kq ≤ k1) ∧ Aside0 (Kd.N (Kd.slice 3 (Kd.int .i64)) 26 wc w.heap.size (fun k_ => some k_ ≠ (v216 : Value).ownBlock ∧ some k_ ≠ (v220 : Value).ownBlock ∧ k_ ≠ gb205) (.slice Ao11 t210.length co11) t210) ∧ Aside0 (Kd.N k46 46 wc w.heap.size (fun k_ => some k_ ≠ ((.slice Ao11 t210.length co11) : Value).ownBlock ∧ some k_ ≠ (v220 : Value).ownBlock ∧ k_ ≠ gb205) v216 t215) ∧ Aside0 (Kd.N k46 46 wc w.heap.size (fun k_ => some k_ ≠ ((.slice Ao11 t210.length co11) : Value).ownBlock ∧ some k_ ≠ (v216 : Value).ownBlock ∧ k_ ≠ gb205) v220 t219) ∧ Aside0 (Kd.V k34 34 wc w.heap.size (fun k_ => some k_ ≠ ((.slice Ao11 t210.length co11) : Value).ownBlock ∧ some k_ ≠ (v216 : Value).ownBlock ∧ some k_ ≠ (v220 : Value).ownBlock ∧ k_ ≠ gb205) (.slice (some ad214) t207.length co9) t207) ∧ Aside0 (wc.heap[gb205]? = some (.cells #[.int .i64 t206, (.slice (some ad214) t207.length co9)] 24 (0, 0))) ∧ Aside0 (Kd.C (Kd.int .i64) wc A214_0 ((rd_T34 t207 x4_1).f0).length ((rd_T34 t207 x4_1).f0)) ∧ Aside0 (Kd.C k84 wc A214_1 ((rd_T34 t207 x4_1).f1).length ((rd_T34 t207 x4_1).f1)) ∧ Aside0 (Kd.C (Kd.int .i64) wc A214_6 ((rd_T34 t207 x4_1).f2.f4).length ((rd_T34 t207 x4_1).f2.f4)) ∧ Aside0 (Kd.C (Kd.int .i64) wc A214_7 ((rd_T34 t207 x4_1).f2.f5).length ((rd_T34 t207 x4_1).f2.f5)) ∧ Aside0 (Kd.C (Kd.int .i64) wc A214_0 ((rd_T34 t207 x4_1).f0).length ((rd_T34 t207 x4_1).f0)) ∧ Aside0 (Kd.C k84 wc A214_1 ((rd_T34 t207 x4_1).f1).length ((rd_T34 t207 x4_1).f1)) ∧ Aside0 (Kd.C (Kd.int .i64) wc A214_6 ((rd_T34 t207 x4_1).f2.f4).length ((rd_T34 t207 x4_1).f2.f4)) ∧ Aside0 (Kd.C (Kd.int .i64) wc A214_7 ((rd_T34 t207 x4_1).f2.f5).length ((rd_T34 t207 x4_1).f2.f5)) ∧ Aside0 (Below w.heap.size w wc))
      case first =>
       have H := HC17.out
       clear HC17
       replace H := Option.bind_eq_some_iff.mp H
       obtain ⟨t223, A220, H⟩ := H
       replace H : ((hallmarkref07_Next.f k1 ((rd_T34 t207 x4_1).f0) ((rd_T34 t207 x4_1).f1) ((rd_T34 t207 x4_1).f2.f0) ((rd_T34 t207 x4_1).f2.f1) ((rd_T34 t207 x4_1).f2.f2) ((rd_T34 t207 x4_1).f2.f3) ((rd_T34 t207 x4_1).f2.f4) ((rd_T34 t207 x4_1).f2.f5)).bind fun t227 => ((hallmarkref04_Ints.f k1 t223 t227).bind fun t230 => (if t230 = true then (if x4_1 < (t210.length : Int) then ((hallmarkref07_Ahead.f k1 t206 t207 x4_1).bind fun t232 => ((hallmarkref04_Ints.f k1 (rd_L1 t210 x4_1) t232).bind fun t235 => (if t235 = true then (hallmarklaw07_CfgNext.j1 k1 t210 x4_1 t215 t219 ((t215.length : Int) != (t219.length : Int)) t206 t207) else (hallmarklaw07_CfgNext.j1 k1 t210 x4_1 t215 t219 true t206 t207)))) else (none)) else (hallmarklaw07_CfgNext.j1 k1 t210 x4_1 t215 t219 true t206 t207)))) = some r := H
       have A22 := zm A220
       clear A220
       replace H := Option.bind_eq_some_iff.mp H
       obtain ⟨t227, A230, H⟩ := H
       replace H : ((hallmarkref04_Ints.f k1 t223 t227).bind fun t230 => (if t230 = true then (if x4_1 < (t210.length : Int) then ((hallmarkref07_Ahead.f k1 t206 t207 x4_1).bind fun t232 => ((hallmarkref04_Ints.f k1 (rd_L1 t210 x4_1) t232).bind fun t235 => (if t235 = true then (hallmarklaw07_CfgNext.j1 k1 t210 x4_1 t215 t219 ((t215.length : Int) != (t219.length : Int)) t206 t207) else (hallmarklaw07_CfgNext.j1 k1 t210 x4_1 t215 t219 true t206 t207)))) else (none)) else (hallmarklaw07_CfgNext.j1 k1 t210 x4_1 t215 t219 true t206 t207))) = some r := H
       have A23 := zm A230
       clear A230
       replace H := Option.bind_eq_some_iff.mp H
       obtain ⟨t230, A240, H⟩ := H
       replace H : (if t230 = true then (if x4_1 < (t210.length : Int) then ((hallmarkref07_Ahead.f k1 t206 t207 x4_1).bind fun t232 => ((hallmarkref04_Ints.f k1 (rd_L1 t210 x4_1) t232).bind fun t235 => (if t235 = true then (hallmarklaw07_CfgNext.j1 k1 t210 x4_1 t215 t219 ((t215.length : Int) != (t219.length : Int)) t206 t207) else (hallmarklaw07_CfgNext.j1 k1 t210 x4_1 t215 t219 true t206 t207)))) else (none)) else (hallmarklaw07_CfgNext.j1 k1 t210 x4_1 t215 t219 true t206 t207)) = some r := H
       have A24 := zm A240
       clear A240
       by_cases c25 : t230 = true
       ·subst c25
        have H1 : (if x4_1 < (t210.length : Int) then ((hallmarkref07_Ahead.f k1 t206 t207 x4_1).bind fun t232 => ((hallmarkref04_Ints.f k1 (rd_L1 t210 x4_1) t232).bind fun t235 => (if t235 = true then (hallmarklaw07_CfgNext.j1 k1 t210 x4_1 t215 t219 ((t215.length : Int) != (t219.length : Int)) t206 t207) else (hallmarklaw07_CfgNext.j1 k1 t210 x4_1 t215 t219 true t206 t207)))) else (none)) = some r := by rw [if_pos rfl] at H; exact H
        clear H
        have H := H1
        clear H1
        by_cases c26 : x4_1 < (t210.length : Int)
        ·rw [if_pos c26] at H
         have c26b0 : decide (x4_1 < (t210.length : Int)) = true := decide_eq_true c26
         clear c26
         (first | rw [c26b0] | (simp only [i64_w, i32_w]; rw [c26b0]) | rw [c26b1] | skip)
         replace H := Option.bind_eq_some_iff.mp H
         obtain ⟨t232, A270, H⟩ := H
         replace H : ((hallmarkref04_Ints.f k1 (rd_L1 t210 x4_1) t232).bind fun t235 => (if t235 = true then (hallmarklaw07_CfgNext.j1 k1 t210 x4_1 t215 t219 ((t215.length : Int) != (t219.length : Int)) t206 t207) else (hallmarklaw07_CfgNext.j1 k1 t210 x4_1 t215 t219 true t206 t207))) = some r := H
         have A27 := zm A270
         clear A270
         replace H := Option.bind_eq_some_iff.mp H
         obtain ⟨t235, A280, H⟩ := H
         replace H : (if t235 = true then (hallmarklaw07_CfgNext.j1 k1 t210 x4_1 t215 t219 ((t215.length : Int) != (t219.length : Int)) t206 t207) else (hallmarklaw07_CfgNext.j1 k1 t210 x4_1 t215 t219 true t206 t207)) = some r := H
         have A28 := zm A280
         clear A280
         by_cases c29 : t235 = true
         ·subst c29
          have H1 : (hallmarklaw07_CfgNext.j1 k1 t210 x4_1 t215 t219 ((t215.length : Int) != (t219.length : Int)) t206 t207) = some r := by rw [if_pos rfl] at H; exact H
          clear H
          have H := H1
          clear H1
          have H' := zm H
          clear H
          try go_wp2
          replace HO_3 := zm (Kd.N_drew HO_3.out)
          replace HO_206001 := zm (Kd.V_drew HO_206001.out)
          replace HO217 := zm (Kd.N_drew HO217.out)
          replace HO221 := zm (Kd.N_drew HO221.out)
          replace BK205 := zm (blk_drew BK205.out)
          replace HR214_0 := zm (Kd.C_drew HR214_0.out)
          replace HR214_1 := zm (Kd.C_drew HR214_1.out)
          replace HR214_6 := zm (Kd.C_drew HR214_6.out)
          replace HR214_7 := zm (Kd.C_drew HR214_7.out)
          replace HR218_0 := zm (Kd.C_drew HR218_0.out)
          replace HR218_1 := zm (Kd.C_drew HR218_1.out)
          replace HR218_6 := zm (Kd.C_drew HR218_6.out)
          replace HR218_7 := zm (Kd.C_drew HR218_7.out)
          replace HB := zm (below_drew1 HB.out)
          have p222 : 0 ≤ (x4_1 : Int) := of_decide_eq_true (by first | (with_reducible assumption) | assumption)
          have q222 : x4_1 < (t207.length : Int) := of_decide_eq_true (by first | (with_reducible assumption) | assumption)
          obtain ⟨ad222, A222_0, c222_0, A222_1, c222_1, A222_6, c222_6, A222_7, c222_7, e222, hx222_0, hx222_1, hx222_2, hx222_3, hx222_4, hx222_5, hx222_6, hx222_7, hl222_0, hi222_0, hl222_1, hi222_1, hl222_6, hi222_6, hl222_7, hi222_7⟩ := at_T34 (Kd.V_reads' HO_206001.out).2.2 x4_1 p222 q222
          obtain rfl : ad214 = ad222 := (by injection e222)
          obtain ⟨ce222, hce222, hMe222, hcc222⟩ := Kd.V_get HO_206001.out z34 x4_1 p222 (by first | exact q222 | exact of_decide_eq_true (by first | (with_reducible assumption) | assumption) | (have e_ := (Kd.V_reads' HO_206001.out).1; omega))
          obtain ⟨ua222_0, uc222_0, ua222_1, uc222_1, ua222_6, uc222_6, ua222_7, uc222_7, rfl, ul222_0, ge222_0, ul222_1, ge222_1, ul222_6, ge222_6, ul222_7, ge222_7⟩ := k34_openF hMe222
          have hv222_0 := hcc222 0 _ rfl
          rw [Nat.add_zero] at hv222_0
          replace hv222_0 := Option.some.inj (hv222_0.symm.trans hx222_0)
          injection hv222_0 with hva_ hvn_ hvc_
          rw [hva_] at ge222_0
          rw [hvc_] at ul222_0
          have HL222_0 := zm (show Kd.V (Kd.int .i64) 3 _ w.heap.size _ _ ((rd_T34 t207 x4_1).f0) from Kd.V_mk ul222_0 ge222_0)
          clear hva_ hvn_ hvc_ ge222_0 ul222_0
          have hv222_1 := hcc222 1 _ rfl
          rw [add_field _ _ 1 (by omega)] at hv222_1
          replace hv222_1 := Option.some.inj (hv222_1.symm.trans hx222_1)
          injection hv222_1 with hva_ hvn_ hvc_
          rw [hva_] at ge222_1
          rw [hvc_] at ul222_1
          have HL222_1 := zm (show Kd.V k84 84 _ w.heap.size _ _ ((rd_T34 t207 x4_1).f1) from Kd.V_mk ul222_1 ge222_1)
          clear hva_ hvn_ hvc_ ge222_1 ul222_1
          have hv222_6 := hcc222 6 _ rfl
          rw [add_field _ _ 6 (by omega)] at hv222_6
          replace hv222_6 := Option.some.inj (hv222_6.symm.trans hx222_6)
          injection hv222_6 with hva_ hvn_ hvc_
          rw [hva_] at ge222_6
          rw [hvc_] at ul222_6
          have HL222_6 := zm (show Kd.V (Kd.int .i64) 3 _ w.heap.size _ _ ((rd_T34 t207 x4_1).f2.f4) from Kd.V_mk ul222_6 ge222_6)
          clear hva_ hvn_ hvc_ ge222_6 ul222_6
          have hv222_7 := hcc222 7 _ rfl
          rw [add_field _ _ 7 (by omega)] at hv222_7
          replace hv222_7 := Option.some.inj (hv222_7.symm.trans hx222_7)
          injection hv222_7 with hva_ hvn_ hvc_
          rw [hva_] at ge222_7
          rw [hvc_] at ul222_7
          have HL222_7 := zm (show Kd.V (Kd.int .i64) 3 _ w.heap.size _ _ ((rd_T34 t207 x4_1).f2.f5) from Kd.V_mk ul222_7 ge222_7)
          clear hva_ hvn_ hvc_ ge222_7 ul222_7
          clear hcc222 hce222
          have HR222_0 := zm hi222_0
          have HC222_0 := zm hl222_0
          clear hi222_0 hl222_0
          have HR222_1 := zm hi222_1
          have HC222_1 := zm hl222_1
          clear hi222_1 hl222_1
          have HR222_6 := zm hi222_6
          have HC222_6 := zm hl222_6
          clear hi222_6 hl222_6
          have HR222_7 := zm hi222_7
          have HC222_7 := zm hl222_7
          clear hi222_7 hl222_7
          replace p222 := eq_true p222
          replace q222 := eq_true q222
          have p226 : 0 ≤ (x4_1 : Int) := of_decide_eq_true (by first | (with_reducible assumption) | assumption)
          have q226 : x4_1 < (t207.length : Int) := of_decide_eq_true (by first | (with_reducible assumption) | assumption)
          obtain ⟨ad226, A226_0, c226_0, A226_1, c226_1, A226_6, c226_6, A226_7, c226_7, e226, hx226_0, hx226_1, hx226_2, hx226_3, hx226_4, hx226_5, hx226_6, hx226_7, hl226_0, hi226_0, hl226_1, hi226_1, hl226_6, hi226_6, hl226_7, hi226_7⟩ := at_T34 (Kd.V_reads' HO_206001.out).2.2 x4_1 p226 q226
          obtain rfl : ad214 = ad226 := (by injection e226)
          obtain ⟨ce226, hce226, hMe226, hcc226⟩ := Kd.V_get HO_206001.out z34 x4_1 p226 (by first | exact q226 | exact of_decide_eq_true (by first | (with_reducible assumption) | assumption) | (have e_ := (Kd.V_reads' HO_206001.out).1; omega))
          obtain ⟨ua226_0, uc226_0, ua226_1, uc226_1, ua226_6, uc226_6, ua226_7, uc226_7, rfl, ul226_0, ge226_0, ul226_1, ge226_1, ul226_6, ge226_6, ul226_7, ge226_7⟩ := k34_openF hMe226
          have hv226_0 := hcc226 0 _ rfl
          rw [Nat.add_zero] at hv226_0
          replace hv226_0 := Option.some.inj (hv226_0.symm.trans hx226_0)
          injection hv226_0 with hva_ hvn_ hvc_
          rw [hva_] at ge226_0
          rw [hvc_] at ul226_0
          have HL226_0 := zm (show Kd.V (Kd.int .i64) 3 _ w.heap.size _ _ ((rd_T34 t207 x4_1).f0) from Kd.V_mk ul226_0 ge226_0)
          clear hva_ hvn_ hvc_ ge226_0 ul226_0
          have hv226_1 := hcc226 1 _ rfl
          rw [add_field _ _ 1 (by omega)] at hv226_1
          replace hv226_1 := Option.some.inj (hv226_1.symm.trans hx226_1)
          injection hv226_1 with hva_ hvn_ hvc_
          rw [hva_] at ge226_1
          rw [hvc_] at ul226_1
          have HL226_1 := zm (show Kd.V k84 84 _ w.heap.size _ _ ((rd_T34 t207 x4_1).f1) from Kd.V_mk ul226_1 ge226_1)
          clear hva_ hvn_ hvc_ ge226_1 ul226_1
          have hv226_6 := hcc226 6 _ rfl
          rw [add_field _ _ 6 (by omega)] at hv226_6
          replace hv226_6 := Option.some.inj (hv226_6.symm.trans hx226_6)
          injection hv226_6 with hva_ hvn_ hvc_
          rw [hva_] at ge226_6
          rw [hvc_] at ul226_6
          have HL226_6 := zm (show Kd.V (Kd.int .i64) 3 _ w.heap.size _ _ ((rd_T34 t207 x4_1).f2.f4) from Kd.V_mk ul226_6 ge226_6)
          clear hva_ hvn_ hvc_ ge226_6 ul226_6
          have hv226_7 := hcc226 7 _ rfl
          rw [add_field _ _ 7 (by omega)] at hv226_7
          replace hv226_7 := Option.some.inj (hv226_7.symm.trans hx226_7)
          injection hv226_7 with hva_ hvn_ hvc_
          rw [hva_] at ge226_7
          rw [hvc_] at ul226_7
          have HL226_7 := zm (show Kd.V (Kd.int .i64) 3 _ w.heap.size _ _ ((rd_T34 t207 x4_1).f2.f5) from Kd.V_mk ul226_7 ge226_7)
          clear hva_ hvn_ hvc_ ge226_7 ul226_7
          clear hcc226 hce226
          have HR226_0 := zm hi226_0
          have HC226_0 := zm hl226_0
          clear hi226_0 hl226_0
          have HR226_1 := zm hi226_1
          have HC226_1 := zm hl226_1
          clear hi226_1 hl226_1
          have HR226_6 := zm hi226_6
          have HC226_6 := zm hl226_6
          clear hi226_6 hl226_6
          have HR226_7 := zm hi226_7
          have HC226_7 := zm hl226_7
          clear hi226_7 hl226_7
          replace p226 := eq_true p226
          replace q226 := eq_true q226
          have ea_ := Option.some.inj (hx222_0.symm.trans hx226_0)
          injection ea_ with ea_ en_ ec_
          subst ea_
          subst ec_
          clear en_
          have ea_ := Option.some.inj (hx222_1.symm.trans hx226_1)
          injection ea_ with ea_ en_ ec_
          subst ea_
          subst ec_
          clear en_
          have ea_ := Option.some.inj (hx222_6.symm.trans hx226_6)
          injection ea_ with ea_ en_ ec_
          subst ea_
          subst ec_
          clear en_
          have ea_ := Option.some.inj (hx222_7.symm.trans hx226_7)
          injection ea_ with ea_ en_ ec_
          subst ea_
          subst ec_
          clear en_
          have p231 : 0 ≤ (x4_1 : Int) := of_decide_eq_true (by first | (with_reducible assumption) | assumption)
          have q231 : x4_1 < (t210.length : Int) := of_decide_eq_true (by first | (with_reducible assumption) | assumption)
          obtain ⟨ad231, A231_0, c231_0, e231, hx231_0, hl231_0, hi231_0⟩ := at_L1 (Kd.N_reads' HO_3.out).2.2 x4_1 p231 q231
          cases e231
          obtain ⟨ce231, hce231, hMe231, hcc231⟩ := Kd.N_get HO_3.out [] x4_1 p231 (by first | exact q231 | exact of_decide_eq_true (by first | (with_reducible assumption) | assumption) | (have e_ := (Kd.N_reads' HO_3.out).1; omega))
          obtain ⟨ua231_0, uc231_0, rfl, ul231_0, ge231_0⟩ := Kd.FK_slice_open hMe231
          have hv231_0 := hcc231 0 _ rfl
          rw [Nat.add_zero, show ((Kd.slice 3 (Kd.int .i64))).sz = 1 from rfl, Nat.mul_one] at hv231_0
          replace hv231_0 := Option.some.inj (hv231_0.symm.trans hx231_0)
          injection hv231_0 with hva_ hvn_ hvc_
          rw [hva_] at ge231_0
          rw [hvc_] at ul231_0
          have HL231_0 := zm (show Kd.V (Kd.int .i64) 3 _ w.heap.size _ _ (rd_L1 t210 x4_1) from Kd.V_mk ul231_0 ge231_0)
          clear hva_ hvn_ hvc_ ge231_0 ul231_0
          clear hcc231 hce231
          have HR231_0 := zm hi231_0
          have HC231_0 := zm hl231_0
          clear hi231_0 hl231_0
          replace p231 := eq_true p231
          replace q231 := eq_true q231
          refine start_ (n := 32) (S := fun w' => w'.cell? ⟨gb205, 0, none⟩ = some (.int .i64 t206) ∧ w'.cell? ⟨gb205, 1, none⟩ = some (.slice (some ad214) t207.length co9) ∧ w'.cell? (ad214.add ((x4_1).toNat * 8)) = some (.slice A222_0 ((rd_T34 t207 x4_1).f0).length c222_0) ∧ w'.cell? ⟨(ad214.add ((x4_1).toNat * 8)).block, (ad214.add ((x4_1).toNat * 8)).off + 1, none⟩ = some (.slice A222_1 ((rd_T34 t207 x4_1).f1).length c222_1) ∧ w'.cell? ⟨(ad214.add ((x4_1).toNat * 8)).block, (ad214.add ((x4_1).toNat * 8)).off + 2, none⟩ = some (.int .i64 ((rd_T34 t207 x4_1).f2.f0)) ∧ w'.cell? ⟨(ad214.add ((x4_1).toNat * 8)).block, (ad214.add ((x4_1).toNat * 8)).off + 3, none⟩ = some (.int .i64 ((rd_T34 t207 x4_1).f2.f1)) ∧ w'.cell? ⟨(ad214.add ((x4_1).toNat * 8)).block, (ad214.add ((x4_1).toNat * 8)).off + 4, none⟩ = some (.int .i64 ((rd_T34 t207 x4_1).f2.f2)) ∧ w'.cell? ⟨(ad214.add ((x4_1).toNat * 8)).block, (ad214.add ((x4_1).toNat * 8)).off + 5, none⟩ = some (.int .i64 ((rd_T34 t207 x4_1).f2.f3)) ∧ w'.cell? ⟨(ad214.add ((x4_1).toNat * 8)).block, (ad214.add ((x4_1).toNat * 8)).off + 6, none⟩ = some (.slice A222_6 ((rd_T34 t207 x4_1).f2.f4).length c222_6) ∧ w'.cell? ⟨(ad214.add ((x4_1).toNat * 8)).block, (ad214.add ((x4_1).toNat * 8)).off + 7, none⟩ = some (.slice A222_7 ((rd_T34 t207 x4_1).f2.f5).length c222_7) ∧ w'.cell? (ad214.add ((x4_1).toNat * 8)) = some (.slice A222_0 ((rd_T34 t207 x4_1).f0).length c222_0) ∧ w'.cell? ⟨(ad214.add ((x4_1).toNat * 8)).block, (ad214.add ((x4_1).toNat * 8)).off + 1, none⟩ = some (.slice A222_1 ((rd_T34 t207 x4_1).f1).length c222_1) ∧ w'.cell? ⟨(ad214.add ((x4_1).toNat * 8)).block, (ad214.add ((x4_1).toNat * 8)).off + 2, none⟩ = some (.int .i64 ((rd_T34 t207 x4_1).f2.f0)) ∧ w'.cell? ⟨(ad214.add ((x4_1).toNat * 8)).block, (ad214.add ((x4_1).toNat * 8)).off + 3, none⟩ = some (.int .i64 ((rd_T34 t207 x4_1).f2.f1)) ∧ w'.cell? ⟨(ad214.add ((x4_1).toNat * 8)).block, (ad214.add ((x4_1).toNat * 8)).off + 4, none⟩ = some (.int .i64 ((rd_T34 t207 x4_1).f2.f2)) ∧ w'.cell? ⟨(ad214.add ((x4_1).toNat * 8)).block, (ad214.add ((x4_1).toNat * 8)).off + 5, none⟩ = some (.int .i64 ((rd_T34 t207 x4_1).f2.f3)) ∧ w'.cell? ⟨(ad214.add ((x4_1).toNat * 8)).block, (ad214.add ((x4_1).toNat * 8)).off + 6, none⟩ = some (.slice A222_6 ((rd_T34 t207 x4_1).f2.f4).length c222_6) ∧ w'.cell? ⟨(ad214.add ((x4_1).toNat * 8)).block, (ad214.add ((x4_1).toNat * 8)).off + 7, none⟩ = some (.slice A222_7 ((rd_T34 t207 x4_1).f2.f5).length c222_7) ∧ w'.cell? (ad231.add (x4_1).toNat) = some (.slice A231_0 (rd_L1 t210 x4_1).length c231_0)) (ds := []) #[Z,Z,Z,Z,Z,Z,Z,Z,Z,Z,Z,Z,Z,Z,Z,Z,Z,Z,Z,Z,Z,Z,Z,Z,Z,Z,Z,Z,Z,Z,Z,Z] (by kernel_rfl) rfl rfl ⟨(blk_cell BK205.out 0).trans rfl, (blk_cell BK205.out 1).trans rfl, hx222_0, hx222_1, hx222_2, hx222_3, hx222_4, hx222_5, hx222_6, hx222_7, hx226_0, hx226_1, hx226_2, hx226_3, hx226_4, hx226_5, hx226_6, hx226_7, hx231_0⟩ (fun hHeld => ?_); refine with_tabW hallmarklaw07_CfgNext.tab9 hallmarklaw07_CfgNext.bits9 (fun HT_ HW_ => ?_)
          generalize w21.drew = w30 at HO_3 HO_206001 HL214_0 HL214_1 HL214_6 HL214_7 HL218_0 HL218_1 HL218_6 HL218_7 HO217 HO221 BK205 HR214_0 HR214_1 HR214_6 HR214_7 HR218_0 HR218_1 HR218_6 HR218_7 HB HL222_0 HL222_1 HL222_6 HL222_7 HL226_0 HL226_1 HL226_6 HL226_7 HL231_0 HR222_0 HR222_1 HR222_6 HR222_7 HR226_0 HR226_1 HR226_6 HR226_7 HR231_0 hx222_0 hx222_1 hx222_2 hx222_3 hx222_4 hx222_5 hx222_6 hx222_7 hx226_0 hx226_1 hx226_2 hx226_3 hx226_4 hx226_5 hx226_6 hx226_7 hx231_0 hHeld ⊢
          refine pure_ (i := 0) (N := some 39) (v := ?_) (a' := ?_) #[Y,Z,Z,Z,Z,Z,Z,Z,Z,Z,Z,Z,Z,Z,Z,Z,Z,Z,Z,Z,Z,Z,Z,Z,Z,Z,Z,Z,Z,Z,Z,Z] rfl rfl (any_of HT_.out (by kernel_rfl)) (fun _ _ _ h => h) (Or.inl ⟨by rfl, ?_⟩) ?_ ?_
          rotate_left
          ·intro w'
           go_simp
           with_reducible rfl
          rotate_left
          ·simp only [Act.put, zl1, zl2, zl3, i64_w, i32_w]
           rfl
          refine pure_ (i := 2) (N := some 41) (v := ?_) (a' := ?_) #[Y,Z,Y,Z,Z,Z,Z,Z,Z,Z,Z,Z,Z,Z,Z,Z,Z,Z,Z,Z,Z,Z,Z,Z,Z,Z,Z,Z,Z,Z,Z,Z] rfl rfl (any_of HT_.out (by kernel_rfl)) (fun _ _ _ h => h) (Or.inl ⟨by rfl, ?_⟩) ?_ ?_
          rotate_left
          ·intro w'
           go_simp
           with_reducible rfl
          rotate_left
          ·simp only [Act.put, zl1, zl2, zl3, i64_w, i32_w]
           rfl
          refine pure_ (i := 6) (N := some 45) (v := ?_) (a' := ?_) #[Y,Z,Y,Z,Z,Z,Y,Z,Z,Z,Z,Z,Z,Z,Z,Z,Z,Z,Z,Z,Z,Z,Z,Z,Z,Z,Z,Z,Z,Z,Z,Z] rfl rfl (any_of HT_.out (by kernel_rfl)) (fun _ _ _ h => h) (Or.inl ⟨by rfl, ?_⟩) ?_ ?_
          rotate_left
          ·intro w'
           go_simp
           with_reducible rfl
          rotate_left
          ·simp only [Act.put, zl1, zl2, zl3, i64_w, i32_w]
           rfl
          refine pure_ (i := 8) (N := some 47) (v := ?_) (a' := ?_) #[Y,Z,Y,Z,Z,Z,Y,Z,Y,Z,Z,Z,Z,Z,Z,Z,Z,Z,Z,Z,Z,Z,Z,Z,Z,Z,Z,Z,Z,Z,Z,Z] rfl rfl (any_of HT_.out (by kernel_rfl)) (fun _ _ _ h => h) (Or.inl ⟨by rfl, ?_⟩) ?_ ?_
          rotate_left
          ·intro w'
           go_simp
           with_reducible rfl
          rotate_left
          ·simp only [Act.put, zl1, zl2, zl3, i64_w, i32_w]
           rfl
          refine take_ (i := 1) (N := some 40) (v := ?_) (a' := ?_) #[Y,Y,Y,Z,Z,Z,Y,Z,Y,Z,Z,Z,Z,Z,Z,Z,Z,Z,Z,Z,Z,Z,Z,Z,Z,Z,Z,Z,Z,Z,Z,Z] rfl rfl (take_ofW HT_.out HW_.out (by kernel_rfl)) (fun _ _ _ h => h) (Or.inl ⟨by rfl, ?_⟩) hHeld ?_ ?_
          rotate_left
          ·rintro w' ⟨s0, s1, s2, s3, s4, s5, s6, s7, s8, s9, s10, s11, s12, s13, s14, s15, s16, s17, s18⟩
           go_simp
           with_reducible rfl
          rotate_left
          ·simp only [Act.put, zl1, zl2, zl3, i64_w, i32_w]
           rfl
          refine pure_ (i := 3) (N := some 42) (v := ?_) (a' := ?_) #[Y,Y,Y,Y,Z,Z,Y,Z,Y,Z,Z,Z,Z,Z,Z,Z,Z,Z,Z,Z,Z,Z,Z,Z,Z,Z,Z,Z,Z,Z,Z,Z] rfl rfl (any_of HT_.out (by kernel_rfl)) (fun _ _ _ h => h) (Or.inl ⟨by rfl, ?_⟩) ?_ ?_
          rotate_left
          ·intro w'
           go_simp
           with_reducible rfl
          rotate_left
          ·simp only [Act.put, zl1, zl2, zl3, i64_w, i32_w]
           rfl
          refine take_ (i := 4) (N := some 43) (v := ?_) (a' := ?_) #[Y,Y,Y,Y,Y,Z,Y,Z,Y,Z,Z,Z,Z,Z,Z,Z,Z,Z,Z,Z,Z,Z,Z,Z,Z,Z,Z,Z,Z,Z,Z,Z] rfl rfl (take_ofW HT_.out HW_.out (by kernel_rfl)) (fun _ _ _ h => h) (Or.inl ⟨by rfl, ?_⟩) hHeld ?_ ?_
          rotate_left
          ·rintro w' ⟨s0, s1, s2, s3, s4, s5, s6, s7, s8, s9, s10, s11, s12, s13, s14, s15, s16, s17, s18⟩
           go_simp
           with_reducible rfl
          rotate_left
          ·simp only [Act.put, zl1, zl2, zl3, i64_w, i32_w]
           rfl
          refine take_ (i := 7) (N := some 46) (v := ?_) (a' := ?_) #[Y,Y,Y,Y,Y,Z,Y,Y,Y,Z,Z,Z,Z,Z,Z,Z,Z,Z,Z,Z,Z,Z,Z,Z,Z,Z,Z,Z,Z,Z,Z,Z] rfl rfl (take_ofW HT_.out HW_.out (by kernel_rfl)) (fun _ _ _ h => h) (Or.inl ⟨by rfl, ?_⟩) hHeld ?_ ?_
          rotate_left
          ·rintro w' ⟨s0, s1, s2, s3, s4, s5, s6, s7, s8, s9, s10, s11, s12, s13, s14, s15, s16, s17, s18⟩
           go_simp
           with_reducible rfl
          rotate_left
          ·simp only [Act.put, zl1, zl2, zl3, i64_w, i32_w]
           rfl
          refine pure_ (i := 9) (N := some 48) (v := ?_) (a' := ?_) #[Y,Y,Y,Y,Y,Z,Y,Y,Y,Y,Z,Z,Z,Z,Z,Z,Z,Z,Z,Z,Z,Z,Z,Z,Z,Z,Z,Z,Z,Z,Z,Z] rfl rfl (any_of HT_.out (by kernel_rfl)) (fun _ _ _ h => h) (Or.inl ⟨by rfl, ?_⟩) ?_ ?_
          rotate_left
          ·intro w'
           go_simp
           with_reducible rfl
          rotate_left
          ·simp only [Act.put, zl1, zl2, zl3, i64_w, i32_w]
           rfl
          refine take_ (i := 10) (N := some 49) (v := ?_) (a' := ?_) #[Y,Y,Y,Y,Y,Z,Y,Y,Y,Y,Y,Z,Z,Z,Z,Z,Z,Z,Z,Z,Z,Z,Z,Z,Z,Z,Z,Z,Z,Z,Z,Z] rfl rfl (take_ofW HT_.out HW_.out (by kernel_rfl)) (fun _ _ _ h => h) (Or.inl ⟨by rfl, ?_⟩) hHeld ?_ ?_
          rotate_left
          ·rintro w' ⟨s0, s1, s2, s3, s4, s5, s6, s7, s8, s9, s10, s11, s12, s13, s14, s15, s16, s17, s18⟩
           go_simp
           with_reducible rfl
          rotate_left
          ·simp only [Act.put, zl1, zl2, zl3, i64_w, i32_w]
           rfl
          refine one_ (i := 5) (N := some 44) #[Y,Y,Y,Y,Y,Y,Y,Y,Y,Y,Y,Z,Z,Z,Z,Z,Z,Z,Z,Z,Z,Z,Z,Z,Z,Z,Z,Z,Z,Z,Z,Z] rfl rfl (one_of HT_.out (by kernel_rfl)) (by decide) (fun K hK => ?_)
          refine goes_ Try.func21 (by kernel_rfl) rfl #[.agg #[.slice A222_0 ((rd_T34 t207 x4_1).f0).length c222_0, .slice A222_1 ((rd_T34 t207 x4_1).f1).length c222_1, .int .i64 ((rd_T34 t207 x4_1).f2.f0), .int .i64 ((rd_T34 t207 x4_1).f2.f1), .int .i64 ((rd_T34 t207 x4_1).f2.f2), .int .i64 ((rd_T34 t207 x4_1).f2.f3), .slice A222_6 ((rd_T34 t207 x4_1).f2.f4).length c222_6, .slice A222_7 ((rd_T34 t207 x4_1).f2.f5).length c222_7]] (by rfl) rfl rfl (by (try simp only [List.map_toArray, List.map_cons, List.map_nil]); first | done | rfl | (simp only [List.length_drop, List.length_take]; rfl)) ?_
          with_reducible refine (cfg_Next.calls _ _ ((rd_T34 t207 x4_1).f0) _ _ ((rd_T34 t207 x4_1).f1) ((rd_T34 t207 x4_1).f2.f0) ((rd_T34 t207 x4_1).f2.f1) ((rd_T34 t207 x4_1).f2.f2) ((rd_T34 t207 x4_1).f2.f3) _ _ ((rd_T34 t207 x4_1).f2.f4) _ _ ((rd_T34 t207 x4_1).f2.f5) t223 _ ?side1 ?side2 ?side3 ?side4 ?side5 ?side6 ?side7 ?side8 A22.out).mono ?_
          (case side1 => repeat (first | exact HR222_0.out | (with_reducible refine Kd.C_alloc ?_ _) | (with_reducible refine Kd.C_drewN ?_ _) | (with_reducible refine Kd.C_drew ?_)))
          (case side2 => exact HC222_0.out)
          (case side3 => repeat (first | exact HR222_1.out | (with_reducible refine Kd.C_alloc ?_ _) | (with_reducible refine Kd.C_drewN ?_ _) | (with_reducible refine Kd.C_drew ?_)))
          (case side4 => exact HC222_1.out)
          (case side5 => repeat (first | exact HR222_6.out | (with_reducible refine Kd.C_alloc ?_ _) | (with_reducible refine Kd.C_drewN ?_ _) | (with_reducible refine Kd.C_drew ?_)))
          (case side6 => exact HC222_6.out)
          (case side7 => repeat (first | exact HR222_7.out | (with_reducible refine Kd.C_alloc ?_ _) | (with_reducible refine Kd.C_drewN ?_ _) | (with_reducible refine Kd.C_drew ?_)))
          (case side8 => exact HC222_7.out)
          rintro e w31 ⟨v224, rfl, ho0, hb⟩
          have HS2_ := zh hb (hHeld.2.2.1)
          have HS3_ := zh hb (hHeld.2.2.2.1)
          have HS4_ := zh hb (hHeld.2.2.2.2.1)
          have HS5_ := zh hb (hHeld.2.2.2.2.2.1)
          have HS6_ := zh hb (hHeld.2.2.2.2.2.2.1)
          have HS7_ := zh hb (hHeld.2.2.2.2.2.2.2.1)
          have HS8_ := zh hb (hHeld.2.2.2.2.2.2.2.2.1)
          have HS9_ := zh hb (hHeld.2.2.2.2.2.2.2.2.2.1)
          have HS10_ := zh hb (hHeld.2.2.2.2.2.2.2.2.2.2.1)
          have HS11_ := zh hb (hHeld.2.2.2.2.2.2.2.2.2.2.2.1)
          have HS12_ := zh hb (hHeld.2.2.2.2.2.2.2.2.2.2.2.2.1)
          have HS13_ := zh hb (hHeld.2.2.2.2.2.2.2.2.2.2.2.2.2.1)
          have HS14_ := zh hb (hHeld.2.2.2.2.2.2.2.2.2.2.2.2.2.2.1)
          have HS15_ := zh hb (hHeld.2.2.2.2.2.2.2.2.2.2.2.2.2.2.2.1)
          have HS16_ := zh hb (hHeld.2.2.2.2.2.2.2.2.2.2.2.2.2.2.2.2.1)
          have HS17_ := zh hb (hHeld.2.2.2.2.2.2.2.2.2.2.2.2.2.2.2.2.2.1)
          have HS18_ := zh hb (hHeld.2.2.2.2.2.2.2.2.2.2.2.2.2.2.2.2.2.2)
          refine ⟨_, rfl, ?_⟩
          replace HR231_0 := zm (Kd.C_below (by repeat (first | (with_reducible exact HR231_0.out) | (with_reducible refine Kd.C_alloc ?_ _) | (with_reducible refine Kd.C_drewN ?_ _) | (with_reducible refine Kd.C_drew ?_) | exact HR231_0.out)) hb)
          replace HO_3 := zm (Kd.N_elder' HO_3.out (Kd.R_base ho0) hb)
          replace HO_206001 := zm (Kd.V_elder' HO_206001.out (Kd.R_base ho0) hb)
          replace HO217 := zm (Kd.N_elder' HO217.out (Kd.R_base ho0) hb)
          replace HO221 := zm (Kd.N_elder' HO221.out (Kd.R_base ho0) hb)
          have HO225 := zm (Kd.R_lower ho0 (below_size (by repeat (first | (with_reducible first | exact HB.out | apply below_alloc | apply pw_below_drewN | apply below_drew1 | refine below_set ?_ GE205.out) | exact HB.out))))
          replace BK205 := zm (blk_below (g := gb205) (o := .cells #[.int .i64 t206, .slice (some ad214) t207.length co9] 24 (0, 0)) BK205.out hb)
          replace HR214_0 := zm (Kd.C_below HR214_0.out hb)
          replace HR214_1 := zm (Kd.C_below HR214_1.out hb)
          replace HR214_6 := zm (Kd.C_below HR214_6.out hb)
          replace HR214_7 := zm (Kd.C_below HR214_7.out hb)
          replace HR218_0 := zm (Kd.C_below HR218_0.out hb)
          replace HR218_1 := zm (Kd.C_below HR218_1.out hb)
          replace HR218_6 := zm (Kd.C_below HR218_6.out hb)
          replace HR218_7 := zm (Kd.C_below HR218_7.out hb)
          replace HR222_0 := zm (Kd.C_below HR222_0.out hb)
          replace HR222_1 := zm (Kd.C_below HR222_1.out hb)
          replace HR222_6 := zm (Kd.C_below HR222_6.out hb)
          replace HR222_7 := zm (Kd.C_below HR222_7.out hb)
          replace HR226_0 := zm (Kd.C_below HR226_0.out hb)
          replace HR226_1 := zm (Kd.C_below HR226_1.out hb)
          replace HR226_6 := zm (Kd.C_below HR226_6.out hb)
          replace HR226_7 := zm (Kd.C_below HR226_7.out hb)
          replace HB := zm (below_step (by repeat (first | (with_reducible first | exact HB.out | apply below_alloc | apply pw_below_drewN | apply below_drew1 | refine below_set ?_ GE205.out) | exact HB.out)) hb)
          (try clear hb)
          (try clear hb2)
          (try clear hk)
          (try clear hi)
          (try clear ho0)
          refine hK.out _ _ ⟨(blk_cell BK205.out 0).trans rfl, (blk_cell BK205.out 1).trans rfl, HS2_, HS3_, HS4_, HS5_, HS6_, HS7_, HS8_, HS9_, HS10_, HS11_, HS12_, HS13_, HS14_, HS15_, HS16_, HS17_, HS18_⟩ (fun hHeld => ?_)
          clear hK K
          refine norm_ (a' := ?_) ?_ ?_
          rotate_left
          ·show Act.put _ (some 44) _ = _
           simp only [Act.put, zl1, zl2, zl3, i64_w, i32_w]
           rfl
          refine one_ (i := 11) (N := some 50) #[Y,Y,Y,Y,Y,Y,Y,Y,Y,Y,Y,Y,Z,Z,Z,Z,Z,Z,Z,Z,Z,Z,Z,Z,Z,Z,Z,Z,Z,Z,Z,Z] rfl rfl (one_of HT_.out (by kernel_rfl)) (by decide) (fun K hK => ?_)
          refine goes_ Try.func11 (by kernel_rfl) rfl #[.agg #[.slice A222_0 ((rd_T34 t207 x4_1).f0).length c222_0, .slice A222_1 ((rd_T34 t207 x4_1).f1).length c222_1, .int .i64 ((rd_T34 t207 x4_1).f2.f0), .int .i64 ((rd_T34 t207 x4_1).f2.f1), .int .i64 ((rd_T34 t207 x4_1).f2.f2), .int .i64 ((rd_T34 t207 x4_1).f2.f3), .slice A222_6 ((rd_T34 t207 x4_1).f2.f4).length c222_6, .slice A222_7 ((rd_T34 t207 x4_1).f2.f5).length c222_7]] (by rfl) rfl rfl (by (try simp only [List.map_toArray, List.map_cons, List.map_nil]); first | done | rfl | (simp only [List.length_drop, List.length_take]; rfl)) ?_
          with_reducible refine (hallmarkref07_Next.calls k1 _ _ ((rd_T34 t207 x4_1).f0) _ _ ((rd_T34 t207 x4_1).f1) ((rd_T34 t207 x4_1).f2.f0) ((rd_T34 t207 x4_1).f2.f1) ((rd_T34 t207 x4_1).f2.f2) ((rd_T34 t207 x4_1).f2.f3) _ _ ((rd_T34 t207 x4_1).f2.f4) _ _ ((rd_T34 t207 x4_1).f2.f5) t227 _ ?side1 ?side2 ?side3 ?side4 ?side5 ?side6 ?side7 ?side8 A23.out).mono ?_
          (case side1 => repeat (first | exact HR226_0.out | (with_reducible refine Kd.C_alloc ?_ _) | (with_reducible refine Kd.C_drewN ?_ _) | (with_reducible refine Kd.C_drew ?_)))
          (case side2 => exact HC226_0.out)
          (case side3 => repeat (first | exact HR226_1.out | (with_reducible refine Kd.C_alloc ?_ _) | (with_reducible refine Kd.C_drewN ?_ _) | (with_reducible refine Kd.C_drew ?_)))
          (case side4 => exact HC226_1.out)
          (case side5 => repeat (first | exact HR226_6.out | (with_reducible refine Kd.C_alloc ?_ _) | (with_reducible refine Kd.C_drewN ?_ _) | (with_reducible refine Kd.C_drew ?_)))
          (case side6 => exact HC226_6.out)
          (case side7 => repeat (first | exact HR226_7.out | (with_reducible refine Kd.C_alloc ?_ _) | (with_reducible refine Kd.C_drewN ?_ _) | (with_reducible refine Kd.C_drew ?_)))
          (case side8 => exact HC226_7.out)
          rintro e w32 ⟨v228, rfl, ho0, hb⟩
          have HS2_ := zh hb (hHeld.2.2.1)
          have HS3_ := zh hb (hHeld.2.2.2.1)
          have HS4_ := zh hb (hHeld.2.2.2.2.1)
          have HS5_ := zh hb (hHeld.2.2.2.2.2.1)
          have HS6_ := zh hb (hHeld.2.2.2.2.2.2.1)
          have HS7_ := zh hb (hHeld.2.2.2.2.2.2.2.1)
          have HS8_ := zh hb (hHeld.2.2.2.2.2.2.2.2.1)
          have HS9_ := zh hb (hHeld.2.2.2.2.2.2.2.2.2.1)
          have HS10_ := zh hb (hHeld.2.2.2.2.2.2.2.2.2.2.1)
          have HS11_ := zh hb (hHeld.2.2.2.2.2.2.2.2.2.2.2.1)
          have HS12_ := zh hb (hHeld.2.2.2.2.2.2.2.2.2.2.2.2.1)
          have HS13_ := zh hb (hHeld.2.2.2.2.2.2.2.2.2.2.2.2.2.1)
          have HS14_ := zh hb (hHeld.2.2.2.2.2.2.2.2.2.2.2.2.2.2.1)
          have HS15_ := zh hb (hHeld.2.2.2.2.2.2.2.2.2.2.2.2.2.2.2.1)
          have HS16_ := zh hb (hHeld.2.2.2.2.2.2.2.2.2.2.2.2.2.2.2.2.1)
          have HS17_ := zh hb (hHeld.2.2.2.2.2.2.2.2.2.2.2.2.2.2.2.2.2.1)
          have HS18_ := zh hb (hHeld.2.2.2.2.2.2.2.2.2.2.2.2.2.2.2.2.2.2)
          refine ⟨_, rfl, ?_⟩
          replace HR231_0 := zm (Kd.C_below (by repeat (first | (with_reducible exact HR231_0.out) | (with_reducible refine Kd.C_alloc ?_ _) | (with_reducible refine Kd.C_drewN ?_ _) | (with_reducible refine Kd.C_drew ?_) | exact HR231_0.out)) hb)
          replace HO_3 := zm (Kd.N_elder' HO_3.out (Kd.R_base ho0) hb)
          replace HO_206001 := zm (Kd.V_elder' HO_206001.out (Kd.R_base ho0) hb)
          replace HO217 := zm (Kd.N_elder' HO217.out (Kd.R_base ho0) hb)
          replace HO221 := zm (Kd.N_elder' HO221.out (Kd.R_base ho0) hb)
          have HO229 := zm (Kd.R_lower (Kd.R_new' ho0 (Kd.R_lt HO225.out)) (below_size (by repeat (first | (with_reducible first | exact HB.out | apply below_alloc | apply pw_below_drewN | apply below_drew1 | refine below_set ?_ GE205.out) | exact HB.out))))
          replace HO225 := zm (Kd.R_elder' HO225.out (Kd.R_base ho0) hb)
          replace BK205 := zm (blk_below (g := gb205) (o := .cells #[.int .i64 t206, .slice (some ad214) t207.length co9] 24 (0, 0)) BK205.out hb)
          replace HR214_0 := zm (Kd.C_below HR214_0.out hb)
          replace HR214_1 := zm (Kd.C_below HR214_1.out hb)
          replace HR214_6 := zm (Kd.C_below HR214_6.out hb)
          replace HR214_7 := zm (Kd.C_below HR214_7.out hb)
          replace HR218_0 := zm (Kd.C_below HR218_0.out hb)
          replace HR218_1 := zm (Kd.C_below HR218_1.out hb)
          replace HR218_6 := zm (Kd.C_below HR218_6.out hb)
          replace HR218_7 := zm (Kd.C_below HR218_7.out hb)
          replace HR222_0 := zm (Kd.C_below HR222_0.out hb)
          replace HR222_1 := zm (Kd.C_below HR222_1.out hb)
          replace HR222_6 := zm (Kd.C_below HR222_6.out hb)
          replace HR222_7 := zm (Kd.C_below HR222_7.out hb)
          replace HR226_0 := zm (Kd.C_below HR226_0.out hb)
          replace HR226_1 := zm (Kd.C_below HR226_1.out hb)
          replace HR226_6 := zm (Kd.C_below HR226_6.out hb)
          replace HR226_7 := zm (Kd.C_below HR226_7.out hb)
          replace HB := zm (below_step (by repeat (first | (with_reducible first | exact HB.out | apply below_alloc | apply pw_below_drewN | apply below_drew1 | refine below_set ?_ GE205.out) | exact HB.out)) hb)
          (try clear hb)
          (try clear hb2)
          (try clear hk)
          (try clear hi)
          (try clear ho0)
          obtain ⟨Ao33, co33, eo33⟩ := Kd.R_slice HO225.out
          (first | subst eo33 | (injection eo33 with f1_ f2_ f3_; have f4_ := f1_.symm; have f5_ := f3_.symm; clear f1_ f2_ f3_; subst f4_; subst f5_))
          obtain ⟨Ao34, co34, eo34⟩ := Kd.R_slice HO229.out
          (first | subst eo34 | (injection eo34 with f1_ f2_ f3_; have f4_ := f1_.symm; have f5_ := f3_.symm; clear f1_ f2_ f3_; subst f4_; subst f5_))
          refine hK.out _ _ ⟨(blk_cell BK205.out 0).trans rfl, (blk_cell BK205.out 1).trans rfl, HS2_, HS3_, HS4_, HS5_, HS6_, HS7_, HS8_, HS9_, HS10_, HS11_, HS12_, HS13_, HS14_, HS15_, HS16_, HS17_, HS18_⟩ (fun hHeld => ?_)
          clear hK K
          refine norm_ (a' := ?_) ?_ ?_
          rotate_left
          ·show Act.put _ (some 50) _ = _
           simp only [Act.put, zl1, zl2, zl3, i64_w, i32_w]
           rfl
          refine one_ (i := 12) (N := some 51) #[Y,Y,Y,Y,Y,Y,Y,Y,Y,Y,Y,Y,Y,Z,Z,Z,Z,Z,Z,Z,Z,Z,Z,Z,Z,Z,Z,Z,Z,Z,Z,Z] rfl rfl (one_of HT_.out (by kernel_rfl)) (by decide) (fun K hK => ?_)
          refine goes_ Try.func14 (by kernel_rfl) rfl #[.slice Ao33 t223.length co33, .slice Ao34 t227.length co34] (by rfl) rfl rfl (by (try simp only [List.map_toArray, List.map_cons, List.map_nil]); first | done | rfl | (simp only [List.length_drop, List.length_take]; rfl)) ?_
          with_reducible refine (hallmarkref04_Ints.calls k1 _ _ t223 _ _ t227 true _ ?side1 ?side2 ?side3 ?side4 A24.out).mono ?_
          (case side1 => repeat (first | exact (Kd.R_reads' HO225.out).2.2 | (with_reducible refine Kd.C_alloc ?_ _) | (with_reducible refine Kd.C_drewN ?_ _) | (with_reducible refine Kd.C_drew ?_)))
          (case side2 => exact (Kd.R_reads' HO225.out).2.1)
          (case side3 => repeat (first | exact (Kd.R_reads' HO229.out).2.2 | (with_reducible refine Kd.C_alloc ?_ _) | (with_reducible refine Kd.C_drewN ?_ _) | (with_reducible refine Kd.C_drew ?_)))
          (case side4 => exact (Kd.R_reads' HO229.out).2.1)
          rintro e w' ⟨rfl, ⟨nd, rfl⟩⟩
          refine ⟨_, rfl, ?_⟩
          refine hK.out _ _ ⟨(blk_cell BK205.out 0).trans rfl, (blk_cell BK205.out 1).trans rfl, hHeld.2.2.1, hHeld.2.2.2.1, hHeld.2.2.2.2.1, hHeld.2.2.2.2.2.1, hHeld.2.2.2.2.2.2.1, hHeld.2.2.2.2.2.2.2.1, hHeld.2.2.2.2.2.2.2.2.1, hHeld.2.2.2.2.2.2.2.2.2.1, hHeld.2.2.2.2.2.2.2.2.2.2.1, hHeld.2.2.2.2.2.2.2.2.2.2.2.1, hHeld.2.2.2.2.2.2.2.2.2.2.2.2.1, hHeld.2.2.2.2.2.2.2.2.2.2.2.2.2.1, hHeld.2.2.2.2.2.2.2.2.2.2.2.2.2.2.1, hHeld.2.2.2.2.2.2.2.2.2.2.2.2.2.2.2.1, hHeld.2.2.2.2.2.2.2.2.2.2.2.2.2.2.2.2.1, hHeld.2.2.2.2.2.2.2.2.2.2.2.2.2.2.2.2.2.1, hHeld.2.2.2.2.2.2.2.2.2.2.2.2.2.2.2.2.2.2⟩ (fun hHeld => ?_)
          clear hK K
          refine norm_ (a' := ?_) ?_ ?_
          rotate_left
          ·show Act.put _ (some 51) _ = _
           simp only [Act.put, zl1, zl2, zl3, i64_w, i32_w]
           rfl
          refine pure_ (i := 13) (N := some 52) (v := ?_) (a' := ?_) #[Y,Y,Y,Y,Y,Y,Y,Y,Y,Y,Y,Y,Y,Y,Z,Z,Z,Z,Z,Z,Z,Z,Z,Z,Z,Z,Z,Z,Z,Z,Z,Z] rfl rfl (any_of HT_.out (by kernel_rfl)) (fun _ _ _ h => h) (Or.inl ⟨by rfl, ?_⟩) ?_ ?_
          rotate_left
          ·intro w'
           go_simp
           with_reducible rfl
          rotate_left
          ·simp only [Act.put, zl1, zl2, zl3, i64_w, i32_w]
           rfl
          refine pure_ (i := 14) (N := some 53) (v := ?_) (a' := ?_) #[Y,Y,Y,Y,Y,Y,Y,Y,Y,Y,Y,Y,Y,Y,Y,Z,Z,Z,Z,Z,Z,Z,Z,Z,Z,Z,Z,Z,Z,Z,Z,Z] rfl rfl (any_of HT_.out (by kernel_rfl)) (fun _ _ _ h => h) (Or.inl ⟨by rfl, ?_⟩) ?_ ?_
          rotate_left
          ·intro w'
           go_simp
           with_reducible rfl
          rotate_left
          ·simp only [Act.put, zl1, zl2, zl3, i64_w, i32_w]
           rfl
          refine pure_ (i := 15) (N := some 54) (v := ?_) (a' := ?_) #[Y,Y,Y,Y,Y,Y,Y,Y,Y,Y,Y,Y,Y,Y,Y,Y,Z,Z,Z,Z,Z,Z,Z,Z,Z,Z,Z,Z,Z,Z,Z,Z] rfl rfl (any_of HT_.out (by kernel_rfl)) (fun _ _ _ h => h) (Or.inl ⟨by rfl, ?_⟩) ?_ ?_
          rotate_left
          ·intro w'
           go_simp
           with_reducible rfl
          rotate_left
          ·simp only [Act.put, zl1, zl2, zl3, i64_w, i32_w]
           rfl
          refine pure_ (i := 16) (N := some 55) (v := ?_) (a' := ?_) #[Y,Y,Y,Y,Y,Y,Y,Y,Y,Y,Y,Y,Y,Y,Y,Y,Y,Z,Z,Z,Z,Z,Z,Z,Z,Z,Z,Z,Z,Z,Z,Z] rfl rfl (any_of HT_.out (by kernel_rfl)) (fun _ _ _ h => h) (Or.inl ⟨by rfl, ?_⟩) ?_ ?_
          rotate_left
          ·intro w'
           go_simp
           with_reducible rfl
          rotate_left
          ·simp only [Act.put, zl1, zl2, zl3, i64_w, i32_w]
           rfl
          refine pure_ (i := 17) (N := some 56) (v := ?_) (a' := ?_) #[Y,Y,Y,Y,Y,Y,Y,Y,Y,Y,Y,Y,Y,Y,Y,Y,Y,Y,Z,Z,Z,Z,Z,Z,Z,Z,Z,Z,Z,Z,Z,Z] rfl rfl (any_of HT_.out (by kernel_rfl)) (fun _ _ _ h => h) (Or.inl ⟨by rfl, ?_⟩) ?_ ?_
          rotate_left
          ·intro w'
           go_simp
           with_reducible rfl
          rotate_left
          ·simp only [Act.put, zl1, zl2, zl3, i64_w, i32_w]
           rfl
          refine pure_ (i := 20) (N := some 59) (v := ?_) (a' := ?_) #[Y,Y,Y,Y,Y,Y,Y,Y,Y,Y,Y,Y,Y,Y,Y,Y,Y,Y,Z,Z,Y,Z,Z,Z,Z,Z,Z,Z,Z,Z,Z,Z] rfl rfl (any_of HT_.out (by kernel_rfl)) (fun _ _ _ h => h) (Or.inl ⟨by rfl, ?_⟩) ?_ ?_
          rotate_left
          ·intro w'
           go_simp
           with_reducible rfl
          rotate_left
          ·simp only [Act.put, zl1, zl2, zl3, i64_w, i32_w]
           rfl
          refine take_ (i := 18) (N := some 57) (v := ?_) (a' := ?_) #[Y,Y,Y,Y,Y,Y,Y,Y,Y,Y,Y,Y,Y,Y,Y,Y,Y,Y,Y,Z,Y,Z,Z,Z,Z,Z,Z,Z,Z,Z,Z,Z] rfl rfl (take_ofW HT_.out HW_.out (by kernel_rfl)) (fun _ _ _ h => h) (Or.inl ⟨by rfl, ?_⟩) hHeld ?_ ?_
          rotate_left
          ·rintro w' ⟨s0, s1, s2, s3, s4, s5, s6, s7, s8, s9, s10, s11, s12, s13, s14, s15, s16, s17, s18⟩
           go_simp
           with_reducible rfl
          rotate_left
          ·simp only [Act.put, zl1, zl2, zl3, i64_w, i32_w]
           rfl
          refine take_ (i := 19) (N := some 58) (v := ?_) (a' := ?_) #[Y,Y,Y,Y,Y,Y,Y,Y,Y,Y,Y,Y,Y,Y,Y,Y,Y,Y,Y,Y,Y,Z,Z,Z,Z,Z,Z,Z,Z,Z,Z,Z] rfl rfl (take_ofW HT_.out HW_.out (by kernel_rfl)) (fun _ _ _ h => h) (Or.inl ⟨by rfl, ?_⟩) hHeld ?_ ?_
          rotate_left
          ·rintro w' ⟨s0, s1, s2, s3, s4, s5, s6, s7, s8, s9, s10, s11, s12, s13, s14, s15, s16, s17, s18⟩
           go_simp
           with_reducible rfl
          rotate_left
          ·simp only [Act.put, zl1, zl2, zl3, i64_w, i32_w]
           rfl
          refine one_ (i := 21) (N := some 60) #[Y,Y,Y,Y,Y,Y,Y,Y,Y,Y,Y,Y,Y,Y,Y,Y,Y,Y,Y,Y,Y,Y,Z,Z,Z,Z,Z,Z,Z,Z,Z,Z] rfl rfl (one_of HT_.out (by kernel_rfl)) (by decide) (fun K hK => ?_)
          refine goes_ Try.func22 (by kernel_rfl) rfl #[.agg #[.int .i64 t206, .slice (some ad214) t207.length co9], .int .i64 x4_1] (by rfl) rfl rfl (by (try simp only [List.map_toArray, List.map_cons, List.map_nil]); first | done | rfl | (simp only [List.length_drop, List.length_take]; rfl)) ?_
          with_reducible refine (hallmarkref07_Ahead.calls k1 t206 _ _ t207 x4_1 t232 _ ?side1 ?side2 A27.out).mono ?_
          (case side1 => repeat (first | exact (Kd.V_reads' HO_206001.out).2.2 | (with_reducible refine Kd.C_alloc ?_ _) | (with_reducible refine Kd.C_drewN ?_ _) | (with_reducible refine Kd.C_drew ?_)))
          (case side2 => exact (Kd.V_reads' HO_206001.out).2.1)
          rintro e w35 ⟨v233, rfl, ho0, hb⟩
          have HS2_ := zh hb (hHeld.2.2.1)
          have HS3_ := zh hb (hHeld.2.2.2.1)
          have HS4_ := zh hb (hHeld.2.2.2.2.1)
          have HS5_ := zh hb (hHeld.2.2.2.2.2.1)
          have HS6_ := zh hb (hHeld.2.2.2.2.2.2.1)
          have HS7_ := zh hb (hHeld.2.2.2.2.2.2.2.1)
          have HS8_ := zh hb (hHeld.2.2.2.2.2.2.2.2.1)
          have HS9_ := zh hb (hHeld.2.2.2.2.2.2.2.2.2.1)
          have HS10_ := zh hb (hHeld.2.2.2.2.2.2.2.2.2.2.1)
          have HS11_ := zh hb (hHeld.2.2.2.2.2.2.2.2.2.2.2.1)
          have HS12_ := zh hb (hHeld.2.2.2.2.2.2.2.2.2.2.2.2.1)
          have HS13_ := zh hb (hHeld.2.2.2.2.2.2.2.2.2.2.2.2.2.1)
          have HS14_ := zh hb (hHeld.2.2.2.2.2.2.2.2.2.2.2.2.2.2.1)
          have HS15_ := zh hb (hHeld.2.2.2.2.2.2.2.2.2.2.2.2.2.2.2.1)
          have HS16_ := zh hb (hHeld.2.2.2.2.2.2.2.2.2.2.2.2.2.2.2.2.1)
          have HS17_ := zh hb (hHeld.2.2.2.2.2.2.2.2.2.2.2.2.2.2.2.2.2.1)
          have HS18_ := zh hb (hHeld.2.2.2.2.2.2.2.2.2.2.2.2.2.2.2.2.2.2)
          refine ⟨_, rfl, ?_⟩
          replace HO_3 := zm (Kd.N_elder' (Kd.N_drewN HO_3.out _) (Kd.R_base ho0) hb)
          replace HO_206001 := zm (Kd.V_elder' (Kd.V_drewN HO_206001.out _) (Kd.R_base ho0) hb)
          replace HO217 := zm (Kd.N_elder' (Kd.N_drewN HO217.out _) (Kd.R_base ho0) hb)
          replace HO221 := zm (Kd.N_elder' (Kd.N_drewN HO221.out _) (Kd.R_base ho0) hb)
          have HO234 := zm (Kd.R_lower (Kd.R_new' (Kd.R_new' ho0 (Kd.R_lt (Kd.R_drewN HO225.out _))) (Kd.R_lt (Kd.R_drewN HO229.out _))) (below_size (by repeat (first | (with_reducible first | exact HB.out | apply below_alloc | apply pw_below_drewN | apply below_drew1 | refine below_set ?_ GE205.out) | exact HB.out))))
          replace HO225 := zm (Kd.R_elder' (Kd.R_drewN HO225.out _) (Kd.R_base ho0) hb)
          replace HO229 := zm (Kd.R_elder' (Kd.R_drewN HO229.out _) (Kd.R_base ho0) hb)
          replace BK205 := zm (blk_below (g := gb205) (o := .cells #[.int .i64 t206, .slice (some ad214) t207.length co9] 24 (0, 0)) (blk_drewN BK205.out _) hb)
          replace HR214_0 := zm (Kd.C_below (Kd.C_drewN HR214_0.out _) hb)
          replace HR214_1 := zm (Kd.C_below (Kd.C_drewN HR214_1.out _) hb)
          replace HR214_6 := zm (Kd.C_below (Kd.C_drewN HR214_6.out _) hb)
          replace HR214_7 := zm (Kd.C_below (Kd.C_drewN HR214_7.out _) hb)
          replace HR218_0 := zm (Kd.C_below (Kd.C_drewN HR218_0.out _) hb)
          replace HR218_1 := zm (Kd.C_below (Kd.C_drewN HR218_1.out _) hb)
          replace HR218_6 := zm (Kd.C_below (Kd.C_drewN HR218_6.out _) hb)
          replace HR218_7 := zm (Kd.C_below (Kd.C_drewN HR218_7.out _) hb)
          replace HR222_0 := zm (Kd.C_below (Kd.C_drewN HR222_0.out _) hb)
          replace HR222_1 := zm (Kd.C_below (Kd.C_drewN HR222_1.out _) hb)
          replace HR222_6 := zm (Kd.C_below (Kd.C_drewN HR222_6.out _) hb)
          replace HR222_7 := zm (Kd.C_below (Kd.C_drewN HR222_7.out _) hb)
          replace HR226_0 := zm (Kd.C_below (Kd.C_drewN HR226_0.out _) hb)
          replace HR226_1 := zm (Kd.C_below (Kd.C_drewN HR226_1.out _) hb)
          replace HR226_6 := zm (Kd.C_below (Kd.C_drewN HR226_6.out _) hb)
          replace HR226_7 := zm (Kd.C_below (Kd.C_drewN HR226_7.out _) hb)
          replace HR231_0 := zm (Kd.C_below (Kd.C_drewN HR231_0.out _) hb)
          replace HB := zm (below_step (by repeat (first | (with_reducible first | exact HB.out | apply below_alloc | apply pw_below_drewN | apply below_drew1 | refine below_set ?_ GE205.out) | exact HB.out)) hb)
          (try clear hb)
          (try clear hb2)
          (try clear hk)
          (try clear hi)
          (try clear ho0)
          obtain ⟨Ao36, co36, eo36⟩ := Kd.R_slice HO234.out
          (first | subst eo36 | (injection eo36 with f1_ f2_ f3_; have f4_ := f1_.symm; have f5_ := f3_.symm; clear f1_ f2_ f3_; subst f4_; subst f5_))
          refine hK.out _ _ ⟨(blk_cell BK205.out 0).trans rfl, (blk_cell BK205.out 1).trans rfl, HS2_, HS3_, HS4_, HS5_, HS6_, HS7_, HS8_, HS9_, HS10_, HS11_, HS12_, HS13_, HS14_, HS15_, HS16_, HS17_, HS18_⟩ (fun hHeld => ?_)
          clear hK K
          refine norm_ (a' := ?_) ?_ ?_
          rotate_left
          ·show Act.put _ (some 60) _ = _
           simp only [Act.put, zl1, zl2, zl3, i64_w, i32_w]
           rfl
          refine one_ (i := 22) (N := some 61) #[Y,Y,Y,Y,Y,Y,Y,Y,Y,Y,Y,Y,Y,Y,Y,Y,Y,Y,Y,Y,Y,Y,Y,Z,Z,Z,Z,Z,Z,Z,Z,Z] rfl rfl (one_of HT_.out (by kernel_rfl)) (by decide) (fun K hK => ?_)
          refine goes_ Try.func14 (by kernel_rfl) rfl #[.slice A231_0 (rd_L1 t210 x4_1).length c231_0, .slice Ao36 t232.length co36] (by rfl) rfl rfl (by (try simp only [List.map_toArray, List.map_cons, List.map_nil]); first | done | rfl | (simp only [List.length_drop, List.length_take]; rfl)) ?_
          with_reducible refine (hallmarkref04_Ints.calls k1 _ _ (rd_L1 t210 x4_1) _ _ t232 true _ ?side1 ?side2 ?side3 ?side4 A28.out).mono ?_
          (case side1 => repeat (first | exact HR231_0.out | (with_reducible refine Kd.C_alloc ?_ _) | (with_reducible refine Kd.C_drewN ?_ _) | (with_reducible refine Kd.C_drew ?_)))
          (case side2 => exact HC231_0.out)
          (case side3 => repeat (first | exact (Kd.R_reads' HO234.out).2.2 | (with_reducible refine Kd.C_alloc ?_ _) | (with_reducible refine Kd.C_drewN ?_ _) | (with_reducible refine Kd.C_drew ?_)))
          (case side4 => exact (Kd.R_reads' HO234.out).2.1)
          rintro e w' ⟨rfl, ⟨nd, rfl⟩⟩
          refine ⟨_, rfl, ?_⟩
          obtain ⟨Ao37, co37, eo37⟩ := Kd.N_slice HO217.out
          (first | subst eo37 | (injection eo37 with f1_ f2_ f3_; have f4_ := f1_.symm; have f5_ := f3_.symm; clear f1_ f2_ f3_; subst f4_; subst f5_))
          obtain ⟨Ao38, co38, eo38⟩ := Kd.N_slice HO221.out
          (first | subst eo38 | (injection eo38 with f1_ f2_ f3_; have f4_ := f1_.symm; have f5_ := f3_.symm; clear f1_ f2_ f3_; subst f4_; subst f5_))
          refine hK.out _ _ ⟨(blk_cell BK205.out 0).trans rfl, (blk_cell BK205.out 1).trans rfl, hHeld.2.2.1, hHeld.2.2.2.1, hHeld.2.2.2.2.1, hHeld.2.2.2.2.2.1, hHeld.2.2.2.2.2.2.1, hHeld.2.2.2.2.2.2.2.1, hHeld.2.2.2.2.2.2.2.2.1, hHeld.2.2.2.2.2.2.2.2.2.1, hHeld.2.2.2.2.2.2.2.2.2.2.1, hHeld.2.2.2.2.2.2.2.2.2.2.2.1, hHeld.2.2.2.2.2.2.2.2.2.2.2.2.1, hHeld.2.2.2.2.2.2.2.2.2.2.2.2.2.1, hHeld.2.2.2.2.2.2.2.2.2.2.2.2.2.2.1, hHeld.2.2.2.2.2.2.2.2.2.2.2.2.2.2.2.1, hHeld.2.2.2.2.2.2.2.2.2.2.2.2.2.2.2.2.1, hHeld.2.2.2.2.2.2.2.2.2.2.2.2.2.2.2.2.2.1, hHeld.2.2.2.2.2.2.2.2.2.2.2.2.2.2.2.2.2.2⟩ (fun hHeld => ?_)
          clear hK K
          refine norm_ (a' := ?_) ?_ ?_
          rotate_left
          ·show Act.put _ (some 61) _ = _
           simp only [Act.put, zl1, zl2, zl3, i64_w, i32_w]
           rfl
          refine pure_ (i := 23) (N := some 62) (v := ?_) (a' := ?_) #[Y,Y,Y,Y,Y,Y,Y,Y,Y,Y,Y,Y,Y,Y,Y,Y,Y,Y,Y,Y,Y,Y,Y,Y,Z,Z,Z,Z,Z,Z,Z,Z] rfl rfl (any_of HT_.out (by kernel_rfl)) (fun _ _ _ h => h) (Or.inl ⟨by rfl, ?_⟩) ?_ ?_
          rotate_left
          ·intro w'
           go_simp
           with_reducible rfl
          rotate_left
          ·simp only [Act.put, zl1, zl2, zl3, i64_w, i32_w]
           rfl
          refine pure_ (i := 24) (N := some 63) (v := ?_) (a' := ?_) #[Y,Y,Y,Y,Y,Y,Y,Y,Y,Y,Y,Y,Y,Y,Y,Y,Y,Y,Y,Y,Y,Y,Y,Y,Y,Z,Z,Z,Z,Z,Z,Z] rfl rfl (any_of HT_.out (by kernel_rfl)) (fun _ _ _ h => h) (Or.inl ⟨by rfl, ?_⟩) ?_ ?_
          rotate_left
          ·intro w'
           go_simp
           with_reducible rfl
          rotate_left
          ·simp only [Act.put, zl1, zl2, zl3, i64_w, i32_w]
           rfl
          refine pure_ (i := 25) (N := some 64) (v := ?_) (a' := ?_) #[Y,Y,Y,Y,Y,Y,Y,Y,Y,Y,Y,Y,Y,Y,Y,Y,Y,Y,Y,Y,Y,Y,Y,Y,Y,Y,Z,Z,Z,Z,Z,Z] rfl rfl (any_of HT_.out (by kernel_rfl)) (fun _ _ _ h => h) (Or.inl ⟨by rfl, ?_⟩) ?_ ?_
          rotate_left
          ·intro w'
           go_simp
           with_reducible rfl
          rotate_left
          ·simp only [Act.put, zl1, zl2, zl3, i64_w, i32_w]
           rfl
          refine pure_ (i := 26) (N := some 65) (v := ?_) (a' := ?_) #[Y,Y,Y,Y,Y,Y,Y,Y,Y,Y,Y,Y,Y,Y,Y,Y,Y,Y,Y,Y,Y,Y,Y,Y,Y,Y,Y,Z,Z,Z,Z,Z] rfl rfl (any_of HT_.out (by kernel_rfl)) (fun _ _ _ h => h) (Or.inl ⟨by rfl, ?_⟩) ?_ ?_
          rotate_left
          ·intro w'
           go_simp
           with_reducible rfl
          rotate_left
          ·simp only [Act.put, zl1, zl2, zl3, i64_w, i32_w]
           rfl
          refine pure_ (i := 27) (N := some 66) (v := ?_) (a' := ?_) #[Y,Y,Y,Y,Y,Y,Y,Y,Y,Y,Y,Y,Y,Y,Y,Y,Y,Y,Y,Y,Y,Y,Y,Y,Y,Y,Y,Y,Z,Z,Z,Z] rfl rfl (any_of HT_.out (by kernel_rfl)) (fun _ _ _ h => h) (Or.inl ⟨by rfl, ?_⟩) ?_ ?_
          rotate_left
          ·intro w'
           go_simp
           with_reducible rfl
          rotate_left
          ·simp only [Act.put, zl1, zl2, zl3, i64_w, i32_w]
           rfl
          refine pure_ (i := 28) (N := some 67) (v := ?_) (a' := ?_) #[Y,Y,Y,Y,Y,Y,Y,Y,Y,Y,Y,Y,Y,Y,Y,Y,Y,Y,Y,Y,Y,Y,Y,Y,Y,Y,Y,Y,Y,Z,Z,Z] rfl rfl (any_of HT_.out (by kernel_rfl)) (fun _ _ _ h => h) (Or.inl ⟨by rfl, ?_⟩) ?_ ?_
          rotate_left
          ·intro w'
           go_simp
           with_reducible rfl
          rotate_left
          ·simp only [Act.put, zl1, zl2, zl3, i64_w, i32_w]
           rfl
          refine pure_ (i := 29) (N := some 68) (v := ?_) (a' := ?_) #[Y,Y,Y,Y,Y,Y,Y,Y,Y,Y,Y,Y,Y,Y,Y,Y,Y,Y,Y,Y,Y,Y,Y,Y,Y,Y,Y,Y,Y,Y,Z,Z] rfl rfl (any_of HT_.out (by kernel_rfl)) (fun _ _ _ h => h) (Or.inl ⟨by rfl, ?_⟩) ?_ ?_
          rotate_left
          ·intro w'
           go_simp
           with_reducible rfl
          rotate_left
          ·simp only [Act.put, zl1, zl2, zl3, i64_w, i32_w]
           rfl
          refine pure_ (i := 30) (N := some 69) (v := ?_) (a' := ?_) #[Y,Y,Y,Y,Y,Y,Y,Y,Y,Y,Y,Y,Y,Y,Y,Y,Y,Y,Y,Y,Y,Y,Y,Y,Y,Y,Y,Y,Y,Y,Y,Z] rfl rfl (any_of HT_.out (by kernel_rfl)) (fun _ _ _ h => h) (Or.inl ⟨by rfl, ?_⟩) ?_ ?_
          rotate_left
          ·intro w'
           go_simp
           with_reducible rfl
          rotate_left
          ·simp only [Act.put, zl1, zl2, zl3, i64_w, i32_w]
           rfl
          refine pure_ (i := 31) (N := some 70) (v := ?_) (a' := ?_) #[Y,Y,Y,Y,Y,Y,Y,Y,Y,Y,Y,Y,Y,Y,Y,Y,Y,Y,Y,Y,Y,Y,Y,Y,Y,Y,Y,Y,Y,Y,Y,Y] rfl rfl (any_of HT_.out (by kernel_rfl)) (fun _ _ _ h => h) (Or.inl ⟨by rfl, ?_⟩) ?_ ?_
          rotate_left
          ·intro w'
           go_simp
           with_reducible rfl
          rotate_left
          ·simp only [Act.put, zl1, zl2, zl3, i64_w, i32_w]
           rfl
          refine done_ (done_of HT_.out (by kernel_rfl)) ?_
          try go_wp2
          go_meet
          case rel => exact ⟨_, (((t215.length : Int) != (t219.length : Int))), (by first | rfl | (simp; done) | (simp [*]; done)), H', ⟨by have := HK1.out; first | omega | exact Nat.le_refl _⟩, ⟨by (with_reducible repeat (first | apply Kd.N_alloc | apply Kd.N_drewN | apply Kd.N_drew)); exact Kd.N_mono HO_3.out (fun _ hk => ⟨hk.1.1.1.1.2, ⟨hk.1.1.1.2, hk.1.1.1.1.1⟩⟩)⟩, ⟨by (with_reducible repeat (first | apply Kd.N_alloc | apply Kd.N_drewN | apply Kd.N_drew)); exact Kd.N_mono HO217.out (fun _ hk => ⟨hk.1.1.1.1.1, ⟨hk.1.1.1.2, hk.1.1.1.1.2⟩⟩)⟩, ⟨by (with_reducible repeat (first | apply Kd.N_alloc | apply Kd.N_drewN | apply Kd.N_drew)); exact Kd.N_mono HO221.out (fun _ hk => ⟨hk.1.1.1.1, ⟨hk.1.1.1.2.1, hk.1.1.1.2.2⟩⟩)⟩, ⟨by (with_reducible repeat (first | apply Kd.V_alloc | apply Kd.V_drewN | apply Kd.V_drew)); exact Kd.V_mono HO_206001.out (fun _ hk => ⟨hk.1.1.1.1.1.1, ⟨hk.1.1.1.1.2, ⟨hk.1.1.1.2, hk.1.1.1.1.1.2⟩⟩⟩)⟩, ⟨by (with_reducible repeat (first | refine blk_drewN ?_ _ | refine blk_drew ?_ | refine blk_alloc ?_ _)); exact BK205.out⟩, ⟨by repeat (first | (with_reducible exact HR214_0.out) | (with_reducible refine Kd.C_alloc ?_ _) | (with_reducible refine Kd.C_drewN ?_ _) | (with_reducible refine Kd.C_drew ?_) | exact HR214_0.out)⟩, ⟨by repeat (first | (with_reducible exact HR214_1.out) | (with_reducible refine Kd.C_alloc ?_ _) | (with_reducible refine Kd.C_drewN ?_ _) | (with_reducible refine Kd.C_drew ?_) | exact HR214_1.out)⟩, ⟨by repeat (first | (with_reducible exact HR214_6.out) | (with_reducible refine Kd.C_alloc ?_ _) | (with_reducible refine Kd.C_drewN ?_ _) | (with_reducible refine Kd.C_drew ?_) | exact HR214_6.out)⟩, ⟨by repeat (first | (with_reducible exact HR214_7.out) | (with_reducible refine Kd.C_alloc ?_ _) | (with_reducible refine Kd.C_drewN ?_ _) | (with_reducible refine Kd.C_drew ?_) | exact HR214_7.out)⟩, ⟨by repeat (first | (with_reducible exact HR218_0.out) | (with_reducible refine Kd.C_alloc ?_ _) | (with_reducible refine Kd.C_drewN ?_ _) | (with_reducible refine Kd.C_drew ?_) | exact HR218_0.out)⟩, ⟨by repeat (first | (with_reducible exact HR218_1.out) | (with_reducible refine Kd.C_alloc ?_ _) | (with_reducible refine Kd.C_drewN ?_ _) | (with_reducible refine Kd.C_drew ?_) | exact HR218_1.out)⟩, ⟨by repeat (first | (with_reducible exact HR218_6.out) | (with_reducible refine Kd.C_alloc ?_ _) | (with_reducible refine Kd.C_drewN ?_ _) | (with_reducible refine Kd.C_drew ?_) | exact HR218_6.out)⟩, ⟨by repeat (first | (with_reducible exact HR218_7.out) | (with_reducible refine Kd.C_alloc ?_ _) | (with_reducible refine Kd.C_drewN ?_ _) | (with_reducible refine Kd.C_drew ?_) | exact HR218_7.out)⟩, ⟨by repeat (first | (with_reducible first | exact HB.out | apply below_alloc | apply pw_below_drewN | apply below_drew1 | refine below_set ?_ GE205.out) | exact HB.out)⟩⟩
         ·replace c29 := Bool.eq_false_iff.mpr c29
          subst c29
          have H1 : (hallmarklaw07_CfgNext.j1 k1 t210 x4_1 t215 t219 true t206 t207) = some r := by rw [if_neg (show ¬ (false = true) by decide)] at H; exact H
          clear H
          have H := H1
          clear H1
          have H' := zm H
          clear H
          try go_wp2
          replace HO_3 := zm (Kd.N_drew HO_3.out)
          replace HO_206001 := zm (Kd.V_drew HO_206001.out)
          replace HO217 := zm (Kd.N_drew HO217.out)
          replace HO221 := zm (Kd.N_drew HO221.out)
          replace BK205 := zm (blk_drew BK205.out)
          replace HR214_0 := zm (Kd.C_drew HR214_0.out)
          replace HR214_1 := zm (Kd.C_drew HR214_1.out)
          replace HR214_6 := zm (Kd.C_drew HR214_6.out)
          replace HR214_7 := zm (Kd.C_drew HR214_7.out)
          replace HR218_0 := zm (Kd.C_drew HR218_0.out)
          replace HR218_1 := zm (Kd.C_drew HR218_1.out)
          replace HR218_6 := zm (Kd.C_drew HR218_6.out)
          replace HR218_7 := zm (Kd.C_drew HR218_7.out)
          replace HB := zm (below_drew1 HB.out)
          have p222 : 0 ≤ (x4_1 : Int) := of_decide_eq_true (by first | (with_reducible assumption) | assumption)
          have q222 : x4_1 < (t207.length : Int) := of_decide_eq_true (by first | (with_reducible assumption) | assumption)
          obtain ⟨ad222, A222_0, c222_0, A222_1, c222_1, A222_6, c222_6, A222_7, c222_7, e222, hx222_0, hx222_1, hx222_2, hx222_3, hx222_4, hx222_5, hx222_6, hx222_7, hl222_0, hi222_0, hl222_1, hi222_1, hl222_6, hi222_6, hl222_7, hi222_7⟩ := at_T34 (Kd.V_reads' HO_206001.out).2.2 x4_1 p222 q222
          obtain rfl : ad214 = ad222 := (by injection e222)
          obtain ⟨ce222, hce222, hMe222, hcc222⟩ := Kd.V_get HO_206001.out z34 x4_1 p222 (by first | exact q222 | exact of_decide_eq_true (by first | (with_reducible assumption) | assumption) | (have e_ := (Kd.V_reads' HO_206001.out).1; omega))
          obtain ⟨ua222_0, uc222_0, ua222_1, uc222_1, ua222_6, uc222_6, ua222_7, uc222_7, rfl, ul222_0, ge222_0, ul222_1, ge222_1, ul222_6, ge222_6, ul222_7, ge222_7⟩ := k34_openF hMe222
          have hv222_0 := hcc222 0 _ rfl
          rw [Nat.add_zero] at hv222_0
          replace hv222_0 := Option.some.inj (hv222_0.symm.trans hx222_0)
          injection hv222_0 with hva_ hvn_ hvc_
          rw [hva_] at ge222_0
          rw [hvc_] at ul222_0
          have HL222_0 := zm (show Kd.V (Kd.int .i64) 3 _ w.heap.size _ _ ((rd_T34 t207 x4_1).f0) from Kd.V_mk ul222_0 ge222_0)
          clear hva_ hvn_ hvc_ ge222_0 ul222_0
          have hv222_1 := hcc222 1 _ rfl
          rw [add_field _ _ 1 (by omega)] at hv222_1
          replace hv222_1 := Option.some.inj (hv222_1.symm.trans hx222_1)
          injection hv222_1 with hva_ hvn_ hvc_
          rw [hva_] at ge222_1
          rw [hvc_] at ul222_1
          have HL222_1 := zm (show Kd.V k84 84 _ w.heap.size _ _ ((rd_T34 t207 x4_1).f1) from Kd.V_mk ul222_1 ge222_1)
          clear hva_ hvn_ hvc_ ge222_1 ul222_1
          have hv222_6 := hcc222 6 _ rfl
          rw [add_field _ _ 6 (by omega)] at hv222_6
          replace hv222_6 := Option.some.inj (hv222_6.symm.trans hx222_6)
          injection hv222_6 with hva_ hvn_ hvc_
          rw [hva_] at ge222_6
          rw [hvc_] at ul222_6
          have HL222_6 := zm (show Kd.V (Kd.int .i64) 3 _ w.heap.size _ _ ((rd_T34 t207 x4_1).f2.f4) from Kd.V_mk ul222_6 ge222_6)
          clear hva_ hvn_ hvc_ ge222_6 ul222_6
          have hv222_7 := hcc222 7 _ rfl
          rw [add_field _ _ 7 (by omega)] at hv222_7
          replace hv222_7 := Option.some.inj (hv222_7.symm.trans hx222_7)
          injection hv222_7 with hva_ hvn_ hvc_
          rw [hva_] at ge222_7
          rw [hvc_] at ul222_7
          have HL222_7 := zm (show Kd.V (Kd.int .i64) 3 _ w.heap.size _ _ ((rd_T34 t207 x4_1).f2.f5) from Kd.V_mk ul222_7 ge222_7)
          clear hva_ hvn_ hvc_ ge222_7 ul222_7
          clear hcc222 hce222
          have HR222_0 := zm hi222_0
          have HC222_0 := zm hl222_0
          clear hi222_0 hl222_0
          have HR222_1 := zm hi222_1
          have HC222_1 := zm hl222_1
          clear hi222_1 hl222_1
          have HR222_6 := zm hi222_6
          have HC222_6 := zm hl222_6
          clear hi222_6 hl222_6
          have HR222_7 := zm hi222_7
          have HC222_7 := zm hl222_7
          clear hi222_7 hl222_7
          replace p222 := eq_true p222
          replace q222 := eq_true q222
          have p226 : 0 ≤ (x4_1 : Int) := of_decide_eq_true (by first | (with_reducible assumption) | assumption)
          have q226 : x4_1 < (t207.length : Int) := of_decide_eq_true (by first | (with_reducible assumption) | assumption)
          obtain ⟨ad226, A226_0, c226_0, A226_1, c226_1, A226_6, c226_6, A226_7, c226_7, e226, hx226_0, hx226_1, hx226_2, hx226_3, hx226_4, hx226_5, hx226_6, hx226_7, hl226_0, hi226_0, hl226_1, hi226_1, hl226_6, hi226_6, hl226_7, hi226_7⟩ := at_T34 (Kd.V_reads' HO_206001.out).2.2 x4_1 p226 q226
          obtain rfl : ad214 = ad226 := (by injection e226)
          obtain ⟨ce226, hce226, hMe226, hcc226⟩ := Kd.V_get HO_206001.out z34 x4_1 p226 (by first | exact q226 | exact of_decide_eq_true (by first | (with_reducible assumption) | assumption) | (have e_ := (Kd.V_reads' HO_206001.out).1; omega))
          obtain ⟨ua226_0, uc226_0, ua226_1, uc226_1, ua226_6, uc226_6, ua226_7, uc226_7, rfl, ul226_0, ge226_0, ul226_1, ge226_1, ul226_6, ge226_6, ul226_7, ge226_7⟩ := k34_openF hMe226
          have hv226_0 := hcc226 0 _ rfl
          rw [Nat.add_zero] at hv226_0
          replace hv226_0 := Option.some.inj (hv226_0.symm.trans hx226_0)
          injection hv226_0 with hva_ hvn_ hvc_
          rw [hva_] at ge226_0
          rw [hvc_] at ul226_0
          have HL226_0 := zm (show Kd.V (Kd.int .i64) 3 _ w.heap.size _ _ ((rd_T34 t207 x4_1).f0) from Kd.V_mk ul226_0 ge226_0)
          clear hva_ hvn_ hvc_ ge226_0 ul226_0
          have hv226_1 := hcc226 1 _ rfl
          rw [add_field _ _ 1 (by omega)] at hv226_1
          replace hv226_1 := Option.some.inj (hv226_1.symm.trans hx226_1)
          injection hv226_1 with hva_ hvn_ hvc_
          rw [hva_] at ge226_1
          rw [hvc_] at ul226_1
          have HL226_1 := zm (show Kd.V k84 84 _ w.heap.size _ _ ((rd_T34 t207 x4_1).f1) from Kd.V_mk ul226_1 ge226_1)
          clear hva_ hvn_ hvc_ ge226_1 ul226_1
          have hv226_6 := hcc226 6 _ rfl
          rw [add_field _ _ 6 (by omega)] at hv226_6
          replace hv226_6 := Option.some.inj (hv226_6.symm.trans hx226_6)
          injection hv226_6 with hva_ hvn_ hvc_
          rw [hva_] at ge226_6
          rw [hvc_] at ul226_6
          have HL226_6 := zm (show Kd.V (Kd.int .i64) 3 _ w.heap.size _ _ ((rd_T34 t207 x4_1).f2.f4) from Kd.V_mk ul226_6 ge226_6)
          clear hva_ hvn_ hvc_ ge226_6 ul226_6
          have hv226_7 := hcc226 7 _ rfl
          rw [add_field _ _ 7 (by omega)] at hv226_7
          replace hv226_7 := Option.some.inj (hv226_7.symm.trans hx226_7)
          injection hv226_7 with hva_ hvn_ hvc_
          rw [hva_] at ge226_7
          rw [hvc_] at ul226_7
          have HL226_7 := zm (show Kd.V (Kd.int .i64) 3 _ w.heap.size _ _ ((rd_T34 t207 x4_1).f2.f5) from Kd.V_mk ul226_7 ge226_7)
          clear hva_ hvn_ hvc_ ge226_7 ul226_7
          clear hcc226 hce226
          have HR226_0 := zm hi226_0
          have HC226_0 := zm hl226_0
          clear hi226_0 hl226_0
          have HR226_1 := zm hi226_1
          have HC226_1 := zm hl226_1
          clear hi226_1 hl226_1
          have HR226_6 := zm hi226_6
          have HC226_6 := zm hl226_6
          clear hi226_6 hl226_6
          have HR226_7 := zm hi226_7
          have HC226_7 := zm hl226_7
          clear hi226_7 hl226_7
          replace p226 := eq_true p226
          replace q226 := eq_true q226
          have ea_ := Option.some.inj (hx222_0.symm.trans hx226_0)
          injection ea_ with ea_ en_ ec_
          subst ea_
          subst ec_
          clear en_
          have ea_ := Option.some.inj (hx222_1.symm.trans hx226_1)
          injection ea_ with ea_ en_ ec_
          subst ea_
          subst ec_
          clear en_
          have ea_ := Option.some.inj (hx222_6.symm.trans hx226_6)
          injection ea_ with ea_ en_ ec_
          subst ea_
          subst ec_
          clear en_
          have ea_ := Option.some.inj (hx222_7.symm.trans hx226_7)
          injection ea_ with ea_ en_ ec_
          subst ea_
          subst ec_
          clear en_
          have p231 : 0 ≤ (x4_1 : Int) := of_decide_eq_true (by first | (with_reducible assumption) | assumption)
          have q231 : x4_1 < (t210.length : Int) := of_decide_eq_true (by first | (with_reducible assumption) | assumption)
          obtain ⟨ad231, A231_0, c231_0, e231, hx231_0, hl231_0, hi231_0⟩ := at_L1 (Kd.N_reads' HO_3.out).2.2 x4_1 p231 q231
          cases e231
          obtain ⟨ce231, hce231, hMe231, hcc231⟩ := Kd.N_get HO_3.out [] x4_1 p231 (by first | exact q231 | exact of_decide_eq_true (by first | (with_reducible assumption) | assumption) | (have e_ := (Kd.N_reads' HO_3.out).1; omega))
          obtain ⟨ua231_0, uc231_0, rfl, ul231_0, ge231_0⟩ := Kd.FK_slice_open hMe231
          have hv231_0 := hcc231 0 _ rfl
          rw [Nat.add_zero, show ((Kd.slice 3 (Kd.int .i64))).sz = 1 from rfl, Nat.mul_one] at hv231_0
          replace hv231_0 := Option.some.inj (hv231_0.symm.trans hx231_0)
          injection hv231_0 with hva_ hvn_ hvc_
          rw [hva_] at ge231_0
          rw [hvc_] at ul231_0
          have HL231_0 := zm (show Kd.V (Kd.int .i64) 3 _ w.heap.size _ _ (rd_L1 t210 x4_1) from Kd.V_mk ul231_0 ge231_0)
          clear hva_ hvn_ hvc_ ge231_0 ul231_0
          clear hcc231 hce231
          have HR231_0 := zm hi231_0
          have HC231_0 := zm hl231_0
          clear hi231_0 hl231_0
          replace p231 := eq_true p231
          replace q231 := eq_true q231
          refine start_ (n := 32) (S := fun w' => w'.cell? ⟨gb205, 0, none⟩ = some (.int .i64 t206) ∧ w'.cell? ⟨gb205, 1, none⟩ = some (.slice (some ad214) t207.length co9) ∧ w'.cell? (ad214.add ((x4_1).toNat * 8)) = some (.slice A222_0 ((rd_T34 t207 x4_1).f0).length c222_0) ∧ w'.cell? ⟨(ad214.add ((x4_1).toNat * 8)).block, (ad214.add ((x4_1).toNat * 8)).off + 1, none⟩ = some (.slice A222_1 ((rd_T34 t207 x4_1).f1).length c222_1) ∧ w'.cell? ⟨(ad214.add ((x4_1).toNat * 8)).block, (ad214.add ((x4_1).toNat * 8)).off + 2, none⟩ = some (.int .i64 ((rd_T34 t207 x4_1).f2.f0)) ∧ w'.cell? ⟨(ad214.add ((x4_1).toNat * 8)).block, (ad214.add ((x4_1).toNat * 8)).off + 3, none⟩ = some (.int .i64 ((rd_T34 t207 x4_1).f2.f1)) ∧ w'.cell? ⟨(ad214.add ((x4_1).toNat * 8)).block, (ad214.add ((x4_1).toNat * 8)).off + 4, none⟩ = some (.int .i64 ((rd_T34 t207 x4_1).f2.f2)) ∧ w'.cell? ⟨(ad214.add ((x4_1).toNat * 8)).block, (ad214.add ((x4_1).toNat * 8)).off + 5, none⟩ = some (.int .i64 ((rd_T34 t207 x4_1).f2.f3)) ∧ w'.cell? ⟨(ad214.add ((x4_1).toNat * 8)).block, (ad214.add ((x4_1).toNat * 8)).off + 6, none⟩ = some (.slice A222_6 ((rd_T34 t207 x4_1).f2.f4).length c222_6) ∧ w'.cell? ⟨(ad214.add ((x4_1).toNat * 8)).block, (ad214.add ((x4_1).toNat * 8)).off + 7, none⟩ = some (.slice A222_7 ((rd_T34 t207 x4_1).f2.f5).length c222_7) ∧ w'.cell? (ad214.add ((x4_1).toNat * 8)) = some (.slice A222_0 ((rd_T34 t207 x4_1).f0).length c222_0) ∧ w'.cell? ⟨(ad214.add ((x4_1).toNat * 8)).block, (ad214.add ((x4_1).toNat * 8)).off + 1, none⟩ = some (.slice A222_1 ((rd_T34 t207 x4_1).f1).length c222_1) ∧ w'.cell? ⟨(ad214.add ((x4_1).toNat * 8)).block, (ad214.add ((x4_1).toNat * 8)).off + 2, none⟩ = some (.int .i64 ((rd_T34 t207 x4_1).f2.f0)) ∧ w'.cell? ⟨(ad214.add ((x4_1).toNat * 8)).block, (ad214.add ((x4_1).toNat * 8)).off + 3, none⟩ = some (.int .i64 ((rd_T34 t207 x4_1).f2.f1)) ∧ w'.cell? ⟨(ad214.add ((x4_1).toNat * 8)).block, (ad214.add ((x4_1).toNat * 8)).off + 4, none⟩ = some (.int .i64 ((rd_T34 t207 x4_1).f2.f2)) ∧ w'.cell? ⟨(ad214.add ((x4_1).toNat * 8)).block, (ad214.add ((x4_1).toNat * 8)).off + 5, none⟩ = some (.int .i64 ((rd_T34 t207 x4_1).f2.f3)) ∧ w'.cell? ⟨(ad214.add ((x4_1).toNat * 8)).block, (ad214.add ((x4_1).toNat * 8)).off + 6, none⟩ = some (.slice A222_6 ((rd_T34 t207 x4_1).f2.f4).length c222_6) ∧ w'.cell? ⟨(ad214.add ((x4_1).toNat * 8)).block, (ad214.add ((x4_1).toNat * 8)).off + 7, none⟩ = some (.slice A222_7 ((rd_T34 t207 x4_1).f2.f5).length c222_7) ∧ w'.cell? (ad231.add (x4_1).toNat) = some (.slice A231_0 (rd_L1 t210 x4_1).length c231_0)) (ds := []) #[Z,Z,Z,Z,Z,Z,Z,Z,Z,Z,Z,Z,Z,Z,Z,Z,Z,Z,Z,Z,Z,Z,Z,Z,Z,Z,Z,Z,Z,Z,Z,Z] (by kernel_rfl) rfl rfl ⟨(blk_cell BK205.out 0).trans rfl, (blk_cell BK205.out 1).trans rfl, hx222_0, hx222_1, hx222_2, hx222_3, hx222_4, hx222_5, hx222_6, hx222_7, hx226_0, hx226_1, hx226_2, hx226_3, hx226_4, hx226_5, hx226_6, hx226_7, hx231_0⟩ (fun hHeld => ?_); refine with_tabW hallmarklaw07_CfgNext.tab9 hallmarklaw07_CfgNext.bits9 (fun HT_ HW_ => ?_)
          generalize w21.drew = w39 at HO_3 HO_206001 HL214_0 HL214_1 HL214_6 HL214_7 HL218_0 HL218_1 HL218_6 HL218_7 HO217 HO221 BK205 HR214_0 HR214_1 HR214_6 HR214_7 HR218_0 HR218_1 HR218_6 HR218_7 HB HL222_0 HL222_1 HL222_6 HL222_7 HL226_0 HL226_1 HL226_6 HL226_7 HL231_0 HR222_0 HR222_1 HR222_6 HR222_7 HR226_0 HR226_1 HR226_6 HR226_7 HR231_0 hx222_0 hx222_1 hx222_2 hx222_3 hx222_4 hx222_5 hx222_6 hx222_7 hx226_0 hx226_1 hx226_2 hx226_3 hx226_4 hx226_5 hx226_6 hx226_7 hx231_0 hHeld ⊢
          refine pure_ (i := 0) (N := some 39) (v := ?_) (a' := ?_) #[Y,Z,Z,Z,Z,Z,Z,Z,Z,Z,Z,Z,Z,Z,Z,Z,Z,Z,Z,Z,Z,Z,Z,Z,Z,Z,Z,Z,Z,Z,Z,Z] rfl rfl (any_of HT_.out (by kernel_rfl)) (fun _ _ _ h => h) (Or.inl ⟨by rfl, ?_⟩) ?_ ?_
          rotate_left
          ·intro w'
           go_simp
           with_reducible rfl
          rotate_left
          ·simp only [Act.put, zl1, zl2, zl3, i64_w, i32_w]
           rfl
          refine pure_ (i := 2) (N := some 41) (v := ?_) (a' := ?_) #[Y,Z,Y,Z,Z,Z,Z,Z,Z,Z,Z,Z,Z,Z,Z,Z,Z,Z,Z,Z,Z,Z,Z,Z,Z,Z,Z,Z,Z,Z,Z,Z] rfl rfl (any_of HT_.out (by kernel_rfl)) (fun _ _ _ h => h) (Or.inl ⟨by rfl, ?_⟩) ?_ ?_
          rotate_left
          ·intro w'
           go_simp
           with_reducible rfl
          rotate_left
          ·simp only [Act.put, zl1, zl2, zl3, i64_w, i32_w]
           rfl
          refine pure_ (i := 6) (N := some 45) (v := ?_) (a' := ?_) #[Y,Z,Y,Z,Z,Z,Y,Z,Z,Z,Z,Z,Z,Z,Z,Z,Z,Z,Z,Z,Z,Z,Z,Z,Z,Z,Z,Z,Z,Z,Z,Z] rfl rfl (any_of HT_.out (by kernel_rfl)) (fun _ _ _ h => h) (Or.inl ⟨by rfl, ?_⟩) ?_ ?_
          rotate_left
          ·intro w'
           go_simp
           with_reducible rfl
          rotate_left
          ·simp only [Act.put, zl1, zl2, zl3, i64_w, i32_w]
           rfl
          refine pure_ (i := 8) (N := some 47) (v := ?_) (a' := ?_) #[Y,Z,Y,Z,Z,Z,Y,Z,Y,Z,Z,Z,Z,Z,Z,Z,Z,Z,Z,Z,Z,Z,Z,Z,Z,Z,Z,Z,Z,Z,Z,Z] rfl rfl (any_of HT_.out (by kernel_rfl)) (fun _ _ _ h => h) (Or.inl ⟨by rfl, ?_⟩) ?_ ?_
          rotate_left
          ·intro w'
           go_simp
           with_reducible rfl
          rotate_left
          ·simp only [Act.put, zl1, zl2, zl3, i64_w, i32_w]
           rfl
          refine take_ (i := 1) (N := some 40) (v := ?_) (a' := ?_) #[Y,Y,Y,Z,Z,Z,Y,Z,Y,Z,Z,Z,Z,Z,Z,Z,Z,Z,Z,Z,Z,Z,Z,Z,Z,Z,Z,Z,Z,Z,Z,Z] rfl rfl (take_ofW HT_.out HW_.out (by kernel_rfl)) (fun _ _ _ h => h) (Or.inl ⟨by rfl, ?_⟩) hHeld ?_ ?_
          rotate_left
          ·rintro w' ⟨s0, s1, s2, s3, s4, s5, s6, s7, s8, s9, s10, s11, s12, s13, s14, s15, s16, s17, s18⟩
           go_simp
           with_reducible rfl
          rotate_left
          ·simp only [Act.put, zl1, zl2, zl3, i64_w, i32_w]
           rfl
          refine pure_ (i := 3) (N := some 42) (v := ?_) (a' := ?_) #[Y,Y,Y,Y,Z,Z,Y,Z,Y,Z,Z,Z,Z,Z,Z,Z,Z,Z,Z,Z,Z,Z,Z,Z,Z,Z,Z,Z,Z,Z,Z,Z] rfl rfl (any_of HT_.out (by kernel_rfl)) (fun _ _ _ h => h) (Or.inl ⟨by rfl, ?_⟩) ?_ ?_
          rotate_left
          ·intro w'
           go_simp
           with_reducible rfl
          rotate_left
          ·simp only [Act.put, zl1, zl2, zl3, i64_w, i32_w]
           rfl
          refine take_ (i := 4) (N := some 43) (v := ?_) (a' := ?_) #[Y,Y,Y,Y,Y,Z,Y,Z,Y,Z,Z,Z,Z,Z,Z,Z,Z,Z,Z,Z,Z,Z,Z,Z,Z,Z,Z,Z,Z,Z,Z,Z] rfl rfl (take_ofW HT_.out HW_.out (by kernel_rfl)) (fun _ _ _ h => h) (Or.inl ⟨by rfl, ?_⟩) hHeld ?_ ?_
          rotate_left
          ·rintro w' ⟨s0, s1, s2, s3, s4, s5, s6, s7, s8, s9, s10, s11, s12, s13, s14, s15, s16, s17, s18⟩
           go_simp
           with_reducible rfl
          rotate_left
          ·simp only [Act.put, zl1, zl2, zl3, i64_w, i32_w]
           rfl
          refine take_ (i := 7) (N := some 46) (v := ?_) (a' := ?_) #[Y,Y,Y,Y,Y,Z,Y,Y,Y,Z,Z,Z,Z,Z,Z,Z,Z,Z,Z,Z,Z,Z,Z,Z,Z,Z,Z,Z,Z,Z,Z,Z] rfl rfl (take_ofW HT_.out HW_.out (by kernel_rfl)) (fun _ _ _ h => h) (Or.inl ⟨by rfl, ?_⟩) hHeld ?_ ?_
          rotate_left
          ·rintro w' ⟨s0, s1, s2, s3, s4, s5, s6, s7, s8, s9, s10, s11, s12, s13, s14, s15, s16, s17, s18⟩
           go_simp
           with_reducible rfl
          rotate_left
          ·simp only [Act.put, zl1, zl2, zl3, i64_w, i32_w]
           rfl
          refine pure_ (i := 9) (N := some 48) (v := ?_) (a' := ?_) #[Y,Y,Y,Y,Y,Z,Y,Y,Y,Y,Z,Z,Z,Z,Z,Z,Z,Z,Z,Z,Z,Z,Z,Z,Z,Z,Z,Z,Z,Z,Z,Z] rfl rfl (any_of HT_.out (by kernel_rfl)) (fun _ _ _ h => h) (Or.inl ⟨by rfl, ?_⟩) ?_ ?_
          rotate_left
          ·intro w'
           go_simp
           with_reducible rfl
          rotate_left
          ·simp only [Act.put, zl1, zl2, zl3, i64_w, i32_w]
           rfl
          refine take_ (i := 10) (N := some 49) (v := ?_) (a' := ?_) #[Y,Y,Y,Y,Y,Z,Y,Y,Y,Y,Y,Z,Z,Z,Z,Z,Z,Z,Z,Z,Z,Z,Z,Z,Z,Z,Z,Z,Z,Z,Z,Z] rfl rfl (take_ofW HT_.out HW_.out (by kernel_rfl)) (fun _ _ _ h => h) (Or.inl ⟨by rfl, ?_⟩) hHeld ?_ ?_
          rotate_left
          ·rintro w' ⟨s0, s1, s2, s3, s4, s5, s6, s7, s8, s9, s10, s11, s12, s13, s14, s15, s16, s17, s18⟩
           go_simp
           with_reducible rfl
          rotate_left
          ·simp only [Act.put, zl1, zl2, zl3, i64_w, i32_w]
           rfl
          refine one_ (i := 5) (N := some 44) #[Y,Y,Y,Y,Y,Y,Y,Y,Y,Y,Y,Z,Z,Z,Z,Z,Z,Z,Z,Z,Z,Z,Z,Z,Z,Z,Z,Z,Z,Z,Z,Z] rfl rfl (one_of HT_.out (by kernel_rfl)) (by decide) (fun K hK => ?_)
          refine goes_ Try.func21 (by kernel_rfl) rfl #[.agg #[.slice A222_0 ((rd_T34 t207 x4_1).f0).length c222_0, .slice A222_1 ((rd_T34 t207 x4_1).f1).length c222_1, .int .i64 ((rd_T34 t207 x4_1).f2.f0), .int .i64 ((rd_T34 t207 x4_1).f2.f1), .int .i64 ((rd_T34 t207 x4_1).f2.f2), .int .i64 ((rd_T34 t207 x4_1).f2.f3), .slice A222_6 ((rd_T34 t207 x4_1).f2.f4).length c222_6, .slice A222_7 ((rd_T34 t207 x4_1).f2.f5).length c222_7]] (by rfl) rfl rfl (by (try simp only [List.map_toArray, List.map_cons, List.map_nil]); first | done | rfl | (simp only [List.length_drop, List.length_take]; rfl)) ?_
          with_reducible refine (cfg_Next.calls _ _ ((rd_T34 t207 x4_1).f0) _ _ ((rd_T34 t207 x4_1).f1) ((rd_T34 t207 x4_1).f2.f0) ((rd_T34 t207 x4_1).f2.f1) ((rd_T34 t207 x4_1).f2.f2) ((rd_T34 t207 x4_1).f2.f3) _ _ ((rd_T34 t207 x4_1).f2.f4) _ _ ((rd_T34 t207 x4_1).f2.f5) t223 _ ?side1 ?side2 ?side3 ?side4 ?side5 ?side6 ?side7 ?side8 A22.out).mono ?_
          (case side1 => repeat (first | exact HR222_0.out | (with_reducible refine Kd.C_alloc ?_ _) | (with_reducible refine Kd.C_drewN ?_ _) | (with_reducible refine Kd.C_drew ?_)))
          (case side2 => exact HC222_0.out)
          (case side3 => repeat (first | exact HR222_1.out | (with_reducible refine Kd.C_alloc ?_ _) | (with_reducible refine Kd.C_drewN ?_ _) | (with_reducible refine Kd.C_drew ?_)))
          (case side4 => exact HC222_1.out)
          (case side5 => repeat (first | exact HR222_6.out | (with_reducible refine Kd.C_alloc ?_ _) | (with_reducible refine Kd.C_drewN ?_ _) | (with_reducible refine Kd.C_drew ?_)))
          (case side6 => exact HC222_6.out)
          (case side7 => repeat (first | exact HR222_7.out | (with_reducible refine Kd.C_alloc ?_ _) | (with_reducible refine Kd.C_drewN ?_ _) | (with_reducible refine Kd.C_drew ?_)))
          (case side8 => exact HC222_7.out)
          rintro e w40 ⟨v224, rfl, ho0, hb⟩
          have HS2_ := zh hb (hHeld.2.2.1)
          have HS3_ := zh hb (hHeld.2.2.2.1)
          have HS4_ := zh hb (hHeld.2.2.2.2.1)
          have HS5_ := zh hb (hHeld.2.2.2.2.2.1)
          have HS6_ := zh hb (hHeld.2.2.2.2.2.2.1)
          have HS7_ := zh hb (hHeld.2.2.2.2.2.2.2.1)
          have HS8_ := zh hb (hHeld.2.2.2.2.2.2.2.2.1)
          have HS9_ := zh hb (hHeld.2.2.2.2.2.2.2.2.2.1)
          have HS10_ := zh hb (hHeld.2.2.2.2.2.2.2.2.2.2.1)
          have HS11_ := zh hb (hHeld.2.2.2.2.2.2.2.2.2.2.2.1)
          have HS12_ := zh hb (hHeld.2.2.2.2.2.2.2.2.2.2.2.2.1)
          have HS13_ := zh hb (hHeld.2.2.2.2.2.2.2.2.2.2.2.2.2.1)
          have HS14_ := zh hb (hHeld.2.2.2.2.2.2.2.2.2.2.2.2.2.2.1)
          have HS15_ := zh hb (hHeld.2.2.2.2.2.2.2.2.2.2.2.2.2.2.2.1)
          have HS16_ := zh hb (hHeld.2.2.2.2.2.2.2.2.2.2.2.2.2.2.2.2.1)
          have HS17_ := zh hb (hHeld.2.2.2.2.2.2.2.2.2.2.2.2.2.2.2.2.2.1)
          have HS18_ := zh hb (hHeld.2.2.2.2.2.2.2.2.2.2.2.2.2.2.2.2.2.2)
          refine ⟨_, rfl, ?_⟩
          replace HR231_0 := zm (Kd.C_below (by repeat (first | (with_reducible exact HR231_0.out) | (with_reducible refine Kd.C_alloc ?_ _) | (with_reducible refine Kd.C_drewN ?_ _) | (with_reducible refine Kd.C_drew ?_) | exact HR231_0.out)) hb)
          replace HO_3 := zm (Kd.N_elder' HO_3.out (Kd.R_base ho0) hb)
          replace HO_206001 := zm (Kd.V_elder' HO_206001.out (Kd.R_base ho0) hb)
          replace HO217 := zm (Kd.N_elder' HO217.out (Kd.R_base ho0) hb)
          replace HO221 := zm (Kd.N_elder' HO221.out (Kd.R_base ho0) hb)
          have HO225 := zm (Kd.R_lower ho0 (below_size (by repeat (first | (with_reducible first | exact HB.out | apply below_alloc | apply pw_below_drewN | apply below_drew1 | refine below_set ?_ GE205.out) | exact HB.out))))
          replace BK205 := zm (blk_below (g := gb205) (o := .cells #[.int .i64 t206, .slice (some ad214) t207.length co9] 24 (0, 0)) BK205.out hb)
          replace HR214_0 := zm (Kd.C_below HR214_0.out hb)
          replace HR214_1 := zm (Kd.C_below HR214_1.out hb)
          replace HR214_6 := zm (Kd.C_below HR214_6.out hb)
          replace HR214_7 := zm (Kd.C_below HR214_7.out hb)
          replace HR218_0 := zm (Kd.C_below HR218_0.out hb)
          replace HR218_1 := zm (Kd.C_below HR218_1.out hb)
          replace HR218_6 := zm (Kd.C_below HR218_6.out hb)
          replace HR218_7 := zm (Kd.C_below HR218_7.out hb)
          replace HR222_0 := zm (Kd.C_below HR222_0.out hb)
          replace HR222_1 := zm (Kd.C_below HR222_1.out hb)
          replace HR222_6 := zm (Kd.C_below HR222_6.out hb)
          replace HR222_7 := zm (Kd.C_below HR222_7.out hb)
          replace HR226_0 := zm (Kd.C_below HR226_0.out hb)
          replace HR226_1 := zm (Kd.C_below HR226_1.out hb)
          replace HR226_6 := zm (Kd.C_below HR226_6.out hb)
          replace HR226_7 := zm (Kd.C_below HR226_7.out hb)
          replace HB := zm (below_step (by repeat (first | (with_reducible first | exact HB.out | apply below_alloc | apply pw_below_drewN | apply below_drew1 | refine below_set ?_ GE205.out) | exact HB.out)) hb)
          (try clear hb)
          (try clear hb2)
          (try clear hk)
          (try clear hi)
          (try clear ho0)
          refine hK.out _ _ ⟨(blk_cell BK205.out 0).trans rfl, (blk_cell BK205.out 1).trans rfl, HS2_, HS3_, HS4_, HS5_, HS6_, HS7_, HS8_, HS9_, HS10_, HS11_, HS12_, HS13_, HS14_, HS15_, HS16_, HS17_, HS18_⟩ (fun hHeld => ?_)
          clear hK K
          refine norm_ (a' := ?_) ?_ ?_
          rotate_left
          ·show Act.put _ (some 44) _ = _
           simp only [Act.put, zl1, zl2, zl3, i64_w, i32_w]
           rfl
          refine one_ (i := 11) (N := some 50) #[Y,Y,Y,Y,Y,Y,Y,Y,Y,Y,Y,Y,Z,Z,Z,Z,Z,Z,Z,Z,Z,Z,Z,Z,Z,Z,Z,Z,Z,Z,Z,Z] rfl rfl (one_of HT_.out (by kernel_rfl)) (by decide) (fun K hK => ?_)
          refine goes_ Try.func11 (by kernel_rfl) rfl #[.agg #[.slice A222_0 ((rd_T34 t207 x4_1).f0).length c222_0, .slice A222_1 ((rd_T34 t207 x4_1).f1).length c222_1, .int .i64 ((rd_T34 t207 x4_1).f2.f0), .int .i64 ((rd_T34 t207 x4_1).f2.f1), .int .i64 ((rd_T34 t207 x4_1).f2.f2), .int .i64 ((rd_T34 t207 x4_1).f2.f3), .slice A222_6 ((rd_T34 t207 x4_1).f2.f4).length c222_6, .slice A222_7 ((rd_T34 t207 x4_1).f2.f5).length c222_7]] (by rfl) rfl rfl (by (try simp only [List.map_toArray, List.map_cons, List.map_nil]); first | done | rfl | (simp only [List.length_drop, List.length_take]; rfl)) ?_
          with_reducible refine (hallmarkref07_Next.calls k1 _ _ ((rd_T34 t207 x4_1).f0) _ _ ((rd_T34 t207 x4_1).f1) ((rd_T34 t207 x4_1).f2.f0) ((rd_T34 t207 x4_1).f2.f1) ((rd_T34 t207 x4_1).f2.f2) ((rd_T34 t207 x4_1).f2.f3) _ _ ((rd_T34 t207 x4_1).f2.f4) _ _ ((rd_T34 t207 x4_1).f2.f5) t227 _ ?side1 ?side2 ?side3 ?side4 ?side5 ?side6 ?side7 ?side8 A23.out).mono ?_
          (case side1 => repeat (first | exact HR226_0.out | (with_reducible refine Kd.C_alloc ?_ _) | (with_reducible refine Kd.C_drewN ?_ _) | (with_reducible refine Kd.C_drew ?_)))
          (case side2 => exact HC226_0.out)
          (case side3 => repeat (first | exact HR226_1.out | (with_reducible refine Kd.C_alloc ?_ _) | (with_reducible refine Kd.C_drewN ?_ _) | (with_reducible refine Kd.C_drew ?_)))
          (case side4 => exact HC226_1.out)
          (case side5 => repeat (first | exact HR226_6.out | (with_reducible refine Kd.C_alloc ?_ _) | (with_reducible refine Kd.C_drewN ?_ _) | (with_reducible refine Kd.C_drew ?_)))
          (case side6 => exact HC226_6.out)
          (case side7 => repeat (first | exact HR226_7.out | (with_reducible refine Kd.C_alloc ?_ _) | (with_reducible refine Kd.C_drewN ?_ _) | (with_reducible refine Kd.C_drew ?_)))
          (case side8 => exact HC226_7.out)
          rintro e w41 ⟨v228, rfl, ho0, hb⟩
          have HS2_ := zh hb (hHeld.2.2.1)
          have HS3_ := zh hb (hHeld.2.2.2.1)
          have HS4_ := zh hb (hHeld.2.2.2.2.1)
          have HS5_ := zh hb (hHeld.2.2.2.2.2.1)
          have HS6_ := zh hb (hHeld.2.2.2.2.2.2.1)
          have HS7_ := zh hb (hHeld.2.2.2.2.2.2.2.1)
          have HS8_ := zh hb (hHeld.2.2.2.2.2.2.2.2.1)
          have HS9_ := zh hb (hHeld.2.2.2.2.2.2.2.2.2.1)
          have HS10_ := zh hb (hHeld.2.2.2.2.2.2.2.2.2.2.1)
          have HS11_ := zh hb (hHeld.2.2.2.2.2.2.2.2.2.2.2.1)
          have HS12_ := zh hb (hHeld.2.2.2.2.2.2.2.2.2.2.2.2.1)
          have HS13_ := zh hb (hHeld.2.2.2.2.2.2.2.2.2.2.2.2.2.1)
          have HS14_ := zh hb (hHeld.2.2.2.2.2.2.2.2.2.2.2.2.2.2.1)
          have HS15_ := zh hb (hHeld.2.2.2.2.2.2.2.2.2.2.2.2.2.2.2.1)
          have HS16_ := zh hb (hHeld.2.2.2.2.2.2.2.2.2.2.2.2.2.2.2.2.1)
          have HS17_ := zh hb (hHeld.2.2.2.2.2.2.2.2.2.2.2.2.2.2.2.2.2.1)
          have HS18_ := zh hb (hHeld.2.2.2.2.2.2.2.2.2.2.2.2.2.2.2.2.2.2)
          refine ⟨_, rfl, ?_⟩
          replace HR231_0 := zm (Kd.C_below (by repeat (first | (with_reducible exact HR231_0.out) | (with_reducible refine Kd.C_alloc ?_ _) | (with_reducible refine Kd.C_drewN ?_ _) | (with_reducible refine Kd.C_drew ?_) | exact HR231_0.out)) hb)
          replace HO_3 := zm (Kd.N_elder' HO_3.out (Kd.R_base ho0) hb)
          replace HO_206001 := zm (Kd.V_elder' HO_206001.out (Kd.R_base ho0) hb)
          replace HO217 := zm (Kd.N_elder' HO217.out (Kd.R_base ho0) hb)
          replace HO221 := zm (Kd.N_elder' HO221.out (Kd.R_base ho0) hb)
          have HO229 := zm (Kd.R_lower (Kd.R_new' ho0 (Kd.R_lt HO225.out)) (below_size (by repeat (first | (with_reducible first | exact HB.out | apply below_alloc | apply pw_below_drewN | apply below_drew1 | refine below_set ?_ GE205.out) | exact HB.out))))
          replace HO225 := zm (Kd.R_elder' HO225.out (Kd.R_base ho0) hb)
          replace BK205 := zm (blk_below (g := gb205) (o := .cells #[.int .i64 t206, .slice (some ad214) t207.length co9] 24 (0, 0)) BK205.out hb)
          replace HR214_0 := zm (Kd.C_below HR214_0.out hb)
          replace HR214_1 := zm (Kd.C_below HR214_1.out hb)
          replace HR214_6 := zm (Kd.C_below HR214_6.out hb)
          replace HR214_7 := zm (Kd.C_below HR214_7.out hb)
          replace HR218_0 := zm (Kd.C_below HR218_0.out hb)
          replace HR218_1 := zm (Kd.C_below HR218_1.out hb)
          replace HR218_6 := zm (Kd.C_below HR218_6.out hb)
          replace HR218_7 := zm (Kd.C_below HR218_7.out hb)
          replace HR222_0 := zm (Kd.C_below HR222_0.out hb)
          replace HR222_1 := zm (Kd.C_below HR222_1.out hb)
          replace HR222_6 := zm (Kd.C_below HR222_6.out hb)
          replace HR222_7 := zm (Kd.C_below HR222_7.out hb)
          replace HR226_0 := zm (Kd.C_below HR226_0.out hb)
          replace HR226_1 := zm (Kd.C_below HR226_1.out hb)
          replace HR226_6 := zm (Kd.C_below HR226_6.out hb)
          replace HR226_7 := zm (Kd.C_below HR226_7.out hb)
          replace HB := zm (below_step (by repeat (first | (with_reducible first | exact HB.out | apply below_alloc | apply pw_below_drewN | apply below_drew1 | refine below_set ?_ GE205.out) | exact HB.out)) hb)
          (try clear hb)
          (try clear hb2)
          (try clear hk)
          (try clear hi)
          (try clear ho0)
          obtain ⟨Ao42, co42, eo42⟩ := Kd.R_slice HO225.out
          (first | subst eo42 | (injection eo42 with f1_ f2_ f3_; have f4_ := f1_.symm; have f5_ := f3_.symm; clear f1_ f2_ f3_; subst f4_; subst f5_))
          obtain ⟨Ao43, co43, eo43⟩ := Kd.R_slice HO229.out
          (first | subst eo43 | (injection eo43 with f1_ f2_ f3_; have f4_ := f1_.symm; have f5_ := f3_.symm; clear f1_ f2_ f3_; subst f4_; subst f5_))
          refine hK.out _ _ ⟨(blk_cell BK205.out 0).trans rfl, (blk_cell BK205.out 1).trans rfl, HS2_, HS3_, HS4_, HS5_, HS6_, HS7_, HS8_, HS9_, HS10_, HS11_, HS12_, HS13_, HS14_, HS15_, HS16_, HS17_, HS18_⟩ (fun hHeld => ?_)
          clear hK K
          refine norm_ (a' := ?_) ?_ ?_
          rotate_left
          ·show Act.put _ (some 50) _ = _
           simp only [Act.put, zl1, zl2, zl3, i64_w, i32_w]
           rfl
          refine one_ (i := 12) (N := some 51) #[Y,Y,Y,Y,Y,Y,Y,Y,Y,Y,Y,Y,Y,Z,Z,Z,Z,Z,Z,Z,Z,Z,Z,Z,Z,Z,Z,Z,Z,Z,Z,Z] rfl rfl (one_of HT_.out (by kernel_rfl)) (by decide) (fun K hK => ?_)
          refine goes_ Try.func14 (by kernel_rfl) rfl #[.slice Ao42 t223.length co42, .slice Ao43 t227.length co43] (by rfl) rfl rfl (by (try simp only [List.map_toArray, List.map_cons, List.map_nil]); first | done | rfl | (simp only [List.length_drop, List.length_take]; rfl)) ?_
          with_reducible refine (hallmarkref04_Ints.calls k1 _ _ t223 _ _ t227 true _ ?side1 ?side2 ?side3 ?side4 A24.out).mono ?_
          (case side1 => repeat (first | exact (Kd.R_reads' HO225.out).2.2 | (with_reducible refine Kd.C_alloc ?_ _) | (with_reducible refine Kd.C_drewN ?_ _) | (with_reducible refine Kd.C_drew ?_)))
          (case side2 => exact (Kd.R_reads' HO225.out).2.1)
          (case side3 => repeat (first | exact (Kd.R_reads' HO229.out).2.2 | (with_reducible refine Kd.C_alloc ?_ _) | (with_reducible refine Kd.C_drewN ?_ _) | (with_reducible refine Kd.C_drew ?_)))
          (case side4 => exact (Kd.R_reads' HO229.out).2.1)
          rintro e w' ⟨rfl, ⟨nd, rfl⟩⟩
          refine ⟨_, rfl, ?_⟩
          refine hK.out _ _ ⟨(blk_cell BK205.out 0).trans rfl, (blk_cell BK205.out 1).trans rfl, hHeld.2.2.1, hHeld.2.2.2.1, hHeld.2.2.2.2.1, hHeld.2.2.2.2.2.1, hHeld.2.2.2.2.2.2.1, hHeld.2.2.2.2.2.2.2.1, hHeld.2.2.2.2.2.2.2.2.1, hHeld.2.2.2.2.2.2.2.2.2.1, hHeld.2.2.2.2.2.2.2.2.2.2.1, hHeld.2.2.2.2.2.2.2.2.2.2.2.1, hHeld.2.2.2.2.2.2.2.2.2.2.2.2.1, hHeld.2.2.2.2.2.2.2.2.2.2.2.2.2.1, hHeld.2.2.2.2.2.2.2.2.2.2.2.2.2.2.1, hHeld.2.2.2.2.2.2.2.2.2.2.2.2.2.2.2.1, hHeld.2.2.2.2.2.2.2.2.2.2.2.2.2.2.2.2.1, hHeld.2.2.2.2.2.2.2.2.2.2.2.2.2.2.2.2.2.1, hHeld.2.2.2.2.2.2.2.2.2.2.2.2.2.2.2.2.2.2⟩ (fun hHeld => ?_)
          clear hK K
          refine norm_ (a' := ?_) ?_ ?_
          rotate_left
          ·show Act.put _ (some 51) _ = _
           simp only [Act.put, zl1, zl2, zl3, i64_w, i32_w]
           rfl
          refine pure_ (i := 13) (N := some 52) (v := ?_) (a' := ?_) #[Y,Y,Y,Y,Y,Y,Y,Y,Y,Y,Y,Y,Y,Y,Z,Z,Z,Z,Z,Z,Z,Z,Z,Z,Z,Z,Z,Z,Z,Z,Z,Z] rfl rfl (any_of HT_.out (by kernel_rfl)) (fun _ _ _ h => h) (Or.inl ⟨by rfl, ?_⟩) ?_ ?_
          rotate_left
          ·intro w'
           go_simp
           with_reducible rfl
          rotate_left
          ·simp only [Act.put, zl1, zl2, zl3, i64_w, i32_w]
           rfl
          refine pure_ (i := 14) (N := some 53) (v := ?_) (a' := ?_) #[Y,Y,Y,Y,Y,Y,Y,Y,Y,Y,Y,Y,Y,Y,Y,Z,Z,Z,Z,Z,Z,Z,Z,Z,Z,Z,Z,Z,Z,Z,Z,Z] rfl rfl (any_of HT_.out (by kernel_rfl)) (fun _ _ _ h => h) (Or.inl ⟨by rfl, ?_⟩) ?_ ?_
          rotate_left
          ·intro w'
           go_simp
           with_reducible rfl
          rotate_left
          ·simp only [Act.put, zl1, zl2, zl3, i64_w, i32_w]
           rfl
          refine pure_ (i := 15) (N := some 54) (v := ?_) (a' := ?_) #[Y,Y,Y,Y,Y,Y,Y,Y,Y,Y,Y,Y,Y,Y,Y,Y,Z,Z,Z,Z,Z,Z,Z,Z,Z,Z,Z,Z,Z,Z,Z,Z] rfl rfl (any_of HT_.out (by kernel_rfl)) (fun _ _ _ h => h) (Or.inl ⟨by rfl, ?_⟩) ?_ ?_
          rotate_left
          ·intro w'
           go_simp
           with_reducible rfl
          rotate_left
          ·simp only [Act.put, zl1, zl2, zl3, i64_w, i32_w]
           rfl
          refine pure_ (i := 16) (N := some 55) (v := ?_) (a' := ?_) #[Y,Y,Y,Y,Y,Y,Y,Y,Y,Y,Y,Y,Y,Y,Y,Y,Y,Z,Z,Z,Z,Z,Z,Z,Z,Z,Z,Z,Z,Z,Z,Z] rfl rfl (any_of HT_.out (by kernel_rfl)) (fun _ _ _ h => h) (Or.inl ⟨by rfl, ?_⟩) ?_ ?_
          rotate_left
          ·intro w'
           go_simp
           with_reducible rfl
          rotate_left
          ·simp only [Act.put, zl1, zl2, zl3, i64_w, i32_w]
           rfl
          refine pure_ (i := 17) (N := some 56) (v := ?_) (a' := ?_) #[Y,Y,Y,Y,Y,Y,Y,Y,Y,Y,Y,Y,Y,Y,Y,Y,Y,Y,Z,Z,Z,Z,Z,Z,Z,Z,Z,Z,Z,Z,Z,Z] rfl rfl (any_of HT_.out (by kernel_rfl)) (fun _ _ _ h => h) (Or.inl ⟨by rfl, ?_⟩) ?_ ?_
          rotate_left
          ·intro w'
           go_simp
           with_reducible rfl
          rotate_left
          ·simp only [Act.put, zl1, zl2, zl3, i64_w, i32_w]
           rfl
          refine pure_ (i := 20) (N := some 59) (v := ?_) (a' := ?_) #[Y,Y,Y,Y,Y,Y,Y,Y,Y,Y,Y,Y,Y,Y,Y,Y,Y,Y,Z,Z,Y,Z,Z,Z,Z,Z,Z,Z,Z,Z,Z,Z] rfl rfl (any_of HT_.out (by kernel_rfl)) (fun _ _ _ h => h) (Or.inl ⟨by rfl, ?_⟩) ?_ ?_
          rotate_left
          ·intro w'
           go_simp
           with_reducible rfl
          rotate_left
          ·simp only [Act.put, zl1, zl2, zl3, i64_w, i32_w]
           rfl
          refine take_ (i := 18) (N := some 57) (v := ?_) (a' := ?_) #[Y,Y,Y,Y,Y,Y,Y,Y,Y,Y,Y,Y,Y,Y,Y,Y,Y,Y,Y,Z,Y,Z,Z,Z,Z,Z,Z,Z,Z,Z,Z,Z] rfl rfl (take_ofW HT_.out HW_.out (by kernel_rfl)) (fun _ _ _ h => h) (Or.inl ⟨by rfl, ?_⟩) hHeld ?_ ?_
          rotate_left
          ·rintro w' ⟨s0, s1, s2, s3, s4, s5, s6, s7, s8, s9, s10, s11, s12, s13, s14, s15, s16, s17, s18⟩
           go_simp
           with_reducible rfl
          rotate_left
          ·simp only [Act.put, zl1, zl2, zl3, i64_w, i32_w]
           rfl
          refine take_ (i := 19) (N := some 58) (v := ?_) (a' := ?_) #[Y,Y,Y,Y,Y,Y,Y,Y,Y,Y,Y,Y,Y,Y,Y,Y,Y,Y,Y,Y,Y,Z,Z,Z,Z,Z,Z,Z,Z,Z,Z,Z] rfl rfl (take_ofW HT_.out HW_.out (by kernel_rfl)) (fun _ _ _ h => h) (Or.inl ⟨by rfl, ?_⟩) hHeld ?_ ?_
          rotate_left
          ·rintro w' ⟨s0, s1, s2, s3, s4, s5, s6, s7, s8, s9, s10, s11, s12, s13, s14, s15, s16, s17, s18⟩
           go_simp
           with_reducible rfl
          rotate_left
          ·simp only [Act.put, zl1, zl2, zl3, i64_w, i32_w]
           rfl
          refine one_ (i := 21) (N := some 60) #[Y,Y,Y,Y,Y,Y,Y,Y,Y,Y,Y,Y,Y,Y,Y,Y,Y,Y,Y,Y,Y,Y,Z,Z,Z,Z,Z,Z,Z,Z,Z,Z] rfl rfl (one_of HT_.out (by kernel_rfl)) (by decide) (fun K hK => ?_)
          refine goes_ Try.func22 (by kernel_rfl) rfl #[.agg #[.int .i64 t206, .slice (some ad214) t207.length co9], .int .i64 x4_1] (by rfl) rfl rfl (by (try simp only [List.map_toArray, List.map_cons, List.map_nil]); first | done | rfl | (simp only [List.length_drop, List.length_take]; rfl)) ?_
          with_reducible refine (hallmarkref07_Ahead.calls k1 t206 _ _ t207 x4_1 t232 _ ?side1 ?side2 A27.out).mono ?_
          (case side1 => repeat (first | exact (Kd.V_reads' HO_206001.out).2.2 | (with_reducible refine Kd.C_alloc ?_ _) | (with_reducible refine Kd.C_drewN ?_ _) | (with_reducible refine Kd.C_drew ?_)))
          (case side2 => exact (Kd.V_reads' HO_206001.out).2.1)
          rintro e w44 ⟨v233, rfl, ho0, hb⟩
          have HS2_ := zh hb (hHeld.2.2.1)
          have HS3_ := zh hb (hHeld.2.2.2.1)
          have HS4_ := zh hb (hHeld.2.2.2.2.1)
          have HS5_ := zh hb (hHeld.2.2.2.2.2.1)
          have HS6_ := zh hb (hHeld.2.2.2.2.2.2.1)
          have HS7_ := zh hb (hHeld.2.2.2.2.2.2.2.1)
          have HS8_ := zh hb (hHeld.2.2.2.2.2.2.2.2.1)
          have HS9_ := zh hb (hHeld.2.2.2.2.2.2.2.2.2.1)
          have HS10_ := zh hb (hHeld.2.2.2.2.2.2.2.2.2.2.1)
          have HS11_ := zh hb (hHeld.2.2.2.2.2.2.2.2.2.2.2.1)
          have HS12_ := zh hb (hHeld.2.2.2.2.2.2.2.2.2.2.2.2.1)
          have HS13_ := zh hb (hHeld.2.2.2.2.2.2.2.2.2.2.2.2.2.1)
          have HS14_ := zh hb (hHeld.2.2.2.2.2.2.2.2.2.2.2.2.2.2.1)
          have HS15_ := zh hb (hHeld.2.2.2.2.2.2.2.2.2.2.2.2.2.2.2.1)
          have HS16_ := zh hb (hHeld.2.2.2.2.2.2.2.2.2.2.2.2.2.2.2.2.1)
          have HS17_ := zh hb (hHeld.2.2.2.2.2.2.2.2.2.2.2.2.2.2.2.2.2.1)
          have HS18_ := zh hb (hHeld.2.2.2.2.2.2.2.2.2.2.2.2.2.2.2.2.2.2)
          refine ⟨_, rfl, ?_⟩
          replace HO_3 := zm (Kd.N_elder' (Kd.N_drewN HO_3.out _) (Kd.R_base ho0) hb)
          replace HO_206001 := zm (Kd.V_elder' (Kd.V_drewN HO_206001.out _) (Kd.R_base ho0) hb)
          replace HO217 := zm (Kd.N_elder' (Kd.N_drewN HO217.out _) (Kd.R_base ho0) hb)
          replace HO221 := zm (Kd.N_elder' (Kd.N_drewN HO221.out _) (Kd.R_base ho0) hb)
          have HO234 := zm (Kd.R_lower (Kd.R_new' (Kd.R_new' ho0 (Kd.R_lt (Kd.R_drewN HO225.out _))) (Kd.R_lt (Kd.R_drewN HO229.out _))) (below_size (by repeat (first | (with_reducible first | exact HB.out | apply below_alloc | apply pw_below_drewN | apply below_drew1 | refine below_set ?_ GE205.out) | exact HB.out))))
          replace HO225 := zm (Kd.R_elder' (Kd.R_drewN HO225.out _) (Kd.R_base ho0) hb)
          replace HO229 := zm (Kd.R_elder' (Kd.R_drewN HO229.out _) (Kd.R_base ho0) hb)
          replace BK205 := zm (blk_below (g := gb205) (o := .cells #[.int .i64 t206, .slice (some ad214) t207.length co9] 24 (0, 0)) (blk_drewN BK205.out _) hb)
          replace HR214_0 := zm (Kd.C_below (Kd.C_drewN HR214_0.out _) hb)
          replace HR214_1 := zm (Kd.C_below (Kd.C_drewN HR214_1.out _) hb)
          replace HR214_6 := zm (Kd.C_below (Kd.C_drewN HR214_6.out _) hb)
          replace HR214_7 := zm (Kd.C_below (Kd.C_drewN HR214_7.out _) hb)
          replace HR218_0 := zm (Kd.C_below (Kd.C_drewN HR218_0.out _) hb)
          replace HR218_1 := zm (Kd.C_below (Kd.C_drewN HR218_1.out _) hb)
          replace HR218_6 := zm (Kd.C_below (Kd.C_drewN HR218_6.out _) hb)
          replace HR218_7 := zm (Kd.C_below (Kd.C_drewN HR218_7.out _) hb)
          replace HR222_0 := zm (Kd.C_below (Kd.C_drewN HR222_0.out _) hb)
          replace HR222_1 := zm (Kd.C_below (Kd.C_drewN HR222_1.out _) hb)
          replace HR222_6 := zm (Kd.C_below (Kd.C_drewN HR222_6.out _) hb)
          replace HR222_7 := zm (Kd.C_below (Kd.C_drewN HR222_7.out _) hb)
          replace HR226_0 := zm (Kd.C_below (Kd.C_drewN HR226_0.out _) hb)
          replace HR226_1 := zm (Kd.C_below (Kd.C_drewN HR226_1.out _) hb)
          replace HR226_6 := zm (Kd.C_below (Kd.C_drewN HR226_6.out _) hb)
          replace HR226_7 := zm (Kd.C_below (Kd.C_drewN HR226_7.out _) hb)
          replace HR231_0 := zm (Kd.C_below (Kd.C_drewN HR231_0.out _) hb)
          replace HB := zm (below_step (by repeat (first | (with_reducible first | exact HB.out | apply below_alloc | apply pw_below_drewN | apply below_drew1 | refine below_set ?_ GE205.out) | exact HB.out)) hb)
          (try clear hb)
          (try clear hb2)
          (try clear hk)
          (try clear hi)
          (try clear ho0)
          obtain ⟨Ao45, co45, eo45⟩ := Kd.R_slice HO234.out
          (first | subst eo45 | (injection eo45 with f1_ f2_ f3_; have f4_ := f1_.symm; have f5_ := f3_.symm; clear f1_ f2_ f3_; subst f4_; subst f5_))
          refine hK.out _ _ ⟨(blk_cell BK205.out 0).trans rfl, (blk_cell BK205.out 1).trans rfl, HS2_, HS3_, HS4_, HS5_, HS6_, HS7_, HS8_, HS9_, HS10_, HS11_, HS12_, HS13_, HS14_, HS15_, HS16_, HS17_, HS18_⟩ (fun hHeld => ?_)
          clear hK K
          refine norm_ (a' := ?_) ?_ ?_
          rotate_left
          ·show Act.put _ (some 60) _ = _
           simp only [Act.put, zl1, zl2, zl3, i64_w, i32_w]
           rfl
          refine one_ (i := 22) (N := some 61) #[Y,Y,Y,Y,Y,Y,Y,Y,Y,Y,Y,Y,Y,Y,Y,Y,Y,Y,Y,Y,Y,Y,Y,Z,Z,Z,Z,Z,Z,Z,Z,Z] rfl rfl (one_of HT_.out (by kernel_rfl)) (by decide) (fun K hK => ?_)
          refine goes_ Try.func14 (by kernel_rfl) rfl #[.slice A231_0 (rd_L1 t210 x4_1).length c231_0, .slice Ao45 t232.length co45] (by rfl) rfl rfl (by (try simp only [List.map_toArray, List.map_cons, List.map_nil]); first | done | rfl | (simp only [List.length_drop, List.length_take]; rfl)) ?_
          with_reducible refine (hallmarkref04_Ints.calls k1 _ _ (rd_L1 t210 x4_1) _ _ t232 false _ ?side1 ?side2 ?side3 ?side4 A28.out).mono ?_
          (case side1 => repeat (first | exact HR231_0.out | (with_reducible refine Kd.C_alloc ?_ _) | (with_reducible refine Kd.C_drewN ?_ _) | (with_reducible refine Kd.C_drew ?_)))
          (case side2 => exact HC231_0.out)
          (case side3 => repeat (first | exact (Kd.R_reads' HO234.out).2.2 | (with_reducible refine Kd.C_alloc ?_ _) | (with_reducible refine Kd.C_drewN ?_ _) | (with_reducible refine Kd.C_drew ?_)))
          (case side4 => exact (Kd.R_reads' HO234.out).2.1)
          rintro e w' ⟨rfl, ⟨nd, rfl⟩⟩
          refine ⟨_, rfl, ?_⟩
          refine hK.out _ _ ⟨(blk_cell BK205.out 0).trans rfl, (blk_cell BK205.out 1).trans rfl, hHeld.2.2.1, hHeld.2.2.2.1, hHeld.2.2.2.2.1, hHeld.2.2.2.2.2.1, hHeld.2.2.2.2.2.2.1, hHeld.2.2.2.2.2.2.2.1, hHeld.2.2.2.2.2.2.2.2.1, hHeld.2.2.2.2.2.2.2.2.2.1, hHeld.2.2.2.2.2.2.2.2.2.2.1, hHeld.2.2.2.2.2.2.2.2.2.2.2.1, hHeld.2.2.2.2.2.2.2.2.2.2.2.2.1, hHeld.2.2.2.2.2.2.2.2.2.2.2.2.2.1, hHeld.2.2.2.2.2.2.2.2.2.2.2.2.2.2.1, hHeld.2.2.2.2.2.2.2.2.2.2.2.2.2.2.2.1, hHeld.2.2.2.2.2.2.2.2.2.2.2.2.2.2.2.2.1, hHeld.2.2.2.2.2.2.2.2.2.2.2.2.2.2.2.2.2.1, hHeld.2.2.2.2.2.2.2.2.2.2.2.2.2.2.2.2.2.2⟩ (fun hHeld => ?_)
          clear hK K
          refine norm_ (a' := ?_) ?_ ?_
          rotate_left
          ·show Act.put _ (some 61) _ = _
           simp only [Act.put, zl1, zl2, zl3, i64_w, i32_w]
           rfl
          refine pure_ (i := 23) (N := some 62) (v := ?_) (a' := ?_) #[Y,Y,Y,Y,Y,Y,Y,Y,Y,Y,Y,Y,Y,Y,Y,Y,Y,Y,Y,Y,Y,Y,Y,Y,Z,Z,Z,Z,Z,Z,Z,Z] rfl rfl (any_of HT_.out (by kernel_rfl)) (fun _ _ _ h => h) (Or.inl ⟨by rfl, ?_⟩) ?_ ?_
          rotate_left
          ·intro w'
           go_simp
           with_reducible rfl
          rotate_left
          ·simp only [Act.put, zl1, zl2, zl3, i64_w, i32_w]
           rfl
          refine pure_ (i := 24) (N := some 63) (v := ?_) (a' := ?_) #[Y,Y,Y,Y,Y,Y,Y,Y,Y,Y,Y,Y,Y,Y,Y,Y,Y,Y,Y,Y,Y,Y,Y,Y,Y,Z,Z,Z,Z,Z,Z,Z] rfl rfl (any_of HT_.out (by kernel_rfl)) (fun _ _ _ h => h) (Or.inl ⟨by rfl, ?_⟩) ?_ ?_
          rotate_left
          ·intro w'
           go_simp
           with_reducible rfl
          rotate_left
          ·simp only [Act.put, zl1, zl2, zl3, i64_w, i32_w]
           rfl
          refine pure_ (i := 25) (N := some 64) (v := ?_) (a' := ?_) #[Y,Y,Y,Y,Y,Y,Y,Y,Y,Y,Y,Y,Y,Y,Y,Y,Y,Y,Y,Y,Y,Y,Y,Y,Y,Y,Z,Z,Z,Z,Z,Z] rfl rfl (any_of HT_.out (by kernel_rfl)) (fun _ _ _ h => h) (Or.inl ⟨by rfl, ?_⟩) ?_ ?_
          rotate_left
          ·intro w'
           go_simp
           with_reducible rfl
          rotate_left
          ·simp only [Act.put, zl1, zl2, zl3, i64_w, i32_w]
           rfl
          refine pure_ (i := 26) (N := some 65) (v := undef) (a' := ?_) #[Y,Y,Y,Y,Y,Y,Y,Y,Y,Y,Y,Y,Y,Y,Y,Y,Y,Y,Y,Y,Y,Y,Y,Y,Y,Y,Y,Z,Z,Z,Z,Z] rfl rfl (any_of HT_.out (by kernel_rfl)) (fun _ _ _ h => h) (Or.inr ⟨by rfl, rfl⟩) ?_ ?_
          rotate_left
          ·simp only [Act.put, zl1, zl2, zl3, i64_w, i32_w]
           rfl
          refine pure_ (i := 27) (N := some 66) (v := undef) (a' := ?_) #[Y,Y,Y,Y,Y,Y,Y,Y,Y,Y,Y,Y,Y,Y,Y,Y,Y,Y,Y,Y,Y,Y,Y,Y,Y,Y,Y,Y,Z,Z,Z,Z] rfl rfl (any_of HT_.out (by kernel_rfl)) (fun _ _ _ h => h) (Or.inr ⟨by rfl, rfl⟩) ?_ ?_
          rotate_left
          ·simp only [Act.put, zl1, zl2, zl3, i64_w, i32_w]
           rfl
          refine pure_ (i := 28) (N := some 67) (v := undef) (a' := ?_) #[Y,Y,Y,Y,Y,Y,Y,Y,Y,Y,Y,Y,Y,Y,Y,Y,Y,Y,Y,Y,Y,Y,Y,Y,Y,Y,Y,Y,Y,Z,Z,Z] rfl rfl (any_of HT_.out (by kernel_rfl)) (fun _ _ _ h => h) (Or.inr ⟨by rfl, rfl⟩) ?_ ?_
          rotate_left
          ·simp only [Act.put, zl1, zl2, zl3, i64_w, i32_w]
           rfl
          refine pure_ (i := 29) (N := some 68) (v := undef) (a' := ?_) #[Y,Y,Y,Y,Y,Y,Y,Y,Y,Y,Y,Y,Y,Y,Y,Y,Y,Y,Y,Y,Y,Y,Y,Y,Y,Y,Y,Y,Y,Y,Z,Z] rfl rfl (any_of HT_.out (by kernel_rfl)) (fun _ _ _ h => h) (Or.inr ⟨by rfl, rfl⟩) ?_ ?_
          rotate_left
          ·simp only [Act.put, zl1, zl2, zl3, i64_w, i32_w]
           rfl
          refine pure_ (i := 30) (N := some 69) (v := undef) (a' := ?_) #[Y,Y,Y,Y,Y,Y,Y,Y,Y,Y,Y,Y,Y,Y,Y,Y,Y,Y,Y,Y,Y,Y,Y,Y,Y,Y,Y,Y,Y,Y,Y,Z] rfl rfl (any_of HT_.out (by kernel_rfl)) (fun _ _ _ h => h) (Or.inr ⟨by rfl, rfl⟩) ?_ ?_
          rotate_left
          ·simp only [Act.put, zl1, zl2, zl3, i64_w, i32_w]
           rfl
          refine pure_ (i := 31) (N := some 70) (v := ?_) (a' := ?_) #[Y,Y,Y,Y,Y,Y,Y,Y,Y,Y,Y,Y,Y,Y,Y,Y,Y,Y,Y,Y,Y,Y,Y,Y,Y,Y,Y,Y,Y,Y,Y,Y] rfl rfl (any_of HT_.out (by kernel_rfl)) (fun _ _ _ h => h) (Or.inl ⟨by rfl, ?_⟩) ?_ ?_
          rotate_left
          ·intro w'
           go_simp
           with_reducible rfl
          rotate_left
          ·simp only [Act.put, zl1, zl2, zl3, i64_w, i32_w]
           rfl
          refine done_ (done_of HT_.out (by kernel_rfl)) ?_
          try go_wp2
          go_meet
          case rel => exact ⟨_, (true), (by first | rfl | (simp; done) | (simp [*]; done)), H', ⟨by have := HK1.out; first | omega | exact Nat.le_refl _⟩, ⟨by (with_reducible repeat (first | apply Kd.N_alloc | apply Kd.N_drewN | apply Kd.N_drew)); exact Kd.N_mono HO_3.out (fun _ hk => ⟨hk.1.1.1.1.2, ⟨hk.1.1.1.2, hk.1.1.1.1.1⟩⟩)⟩, ⟨by (with_reducible repeat (first | apply Kd.N_alloc | apply Kd.N_drewN | apply Kd.N_drew)); exact Kd.N_mono HO217.out (fun _ hk => ⟨hk.1.1.1.1.1, ⟨hk.1.1.1.2, hk.1.1.1.1.2⟩⟩)⟩, ⟨by (with_reducible repeat (first | apply Kd.N_alloc | apply Kd.N_drewN | apply Kd.N_drew)); exact Kd.N_mono HO221.out (fun _ hk => ⟨hk.1.1.1.1, ⟨hk.1.1.1.2.1, hk.1.1.1.2.2⟩⟩)⟩, ⟨by (with_reducible repeat (first | apply Kd.V_alloc | apply Kd.V_drewN | apply Kd.V_drew)); exact Kd.V_mono HO_206001.out (fun _ hk => ⟨hk.1.1.1.1.1.1, ⟨hk.1.1.1.1.2, ⟨hk.1.1.1.2, hk.1.1.1.1.1.2⟩⟩⟩)⟩, ⟨by (with_reducible repeat (first | refine blk_drewN ?_ _ | refine blk_drew ?_ | refine blk_alloc ?_ _)); exact BK205.out⟩, ⟨by repeat (first | (with_reducible exact HR214_0.out) | (with_reducible refine Kd.C_alloc ?_ _) | (with_reducible refine Kd.C_drewN ?_ _) | (with_reducible refine Kd.C_drew ?_) | exact HR214_0.out)⟩, ⟨by repeat (first | (with_reducible exact HR214_1.out) | (with_reducible refine Kd.C_alloc ?_ _) | (with_reducible refine Kd.C_drewN ?_ _) | (with_reducible refine Kd.C_drew ?_) | exact HR214_1.out)⟩, ⟨by repeat (first | (with_reducible exact HR214_6.out) | (with_reducible refine Kd.C_alloc ?_ _) | (with_reducible refine Kd.C_drewN ?_ _) | (with_reducible refine Kd.C_drew ?_) | exact HR214_6.out)⟩, ⟨by repeat (first | (with_reducible exact HR214_7.out) | (with_reducible refine Kd.C_alloc ?_ _) | (with_reducible refine Kd.C_drewN ?_ _) | (with_reducible refine Kd.C_drew ?_) | exact HR214_7.out)⟩, ⟨by repeat (first | (with_reducible exact HR218_0.out) | (with_reducible refine Kd.C_alloc ?_ _) | (with_reducible refine Kd.C_drewN ?_ _) | (with_reducible refine Kd.C_drew ?_) | exact HR218_0.out)⟩, ⟨by repeat (first | (with_reducible exact HR218_1.out) | (with_reducible refine Kd.C_alloc ?_ _) | (with_reducible refine Kd.C_drewN ?_ _) | (with_reducible refine Kd.C_drew ?_) | exact HR218_1.out)⟩, ⟨by repeat (first | (with_reducible exact HR218_6.out) | (with_reducible refine Kd.C_alloc ?_ _) | (with_reducible refine Kd.C_drewN ?_ _) | (with_reducible refine Kd.C_drew ?_) | exact HR218_6.out)⟩, ⟨by repeat (first | (with_reducible exact HR218_7.out) | (with_reducible refine Kd.C_alloc ?_ _) | (with_reducible refine Kd.C_drewN ?_ _) | (with_reducible refine Kd.C_drew ?_) | exact HR218_7.out)⟩, ⟨by repeat (first | (with_reducible first | exact HB.out | apply below_alloc | apply pw_below_drewN | apply below_drew1 | refine below_set ?_ GE205.out) | exact HB.out)⟩⟩
        ·rw [if_neg c26] at H
         exact absurd H (by simp)
       ·replace c25 := Bool.eq_false_iff.mpr c25
        subst c25
        have H1 : (hallmarklaw07_CfgNext.j1 k1 t210 x4_1 t215 t219 true t206 t207) = some r := by rw [if_neg (show ¬ (false = true) by decide)] at H; exact H
        clear H
        have H := H1
        clear H1
        have H' := zm H
        clear H
        try go_wp2
        replace HO_3 := zm (Kd.N_drew HO_3.out)
        replace HO_206001 := zm (Kd.V_drew HO_206001.out)
        replace HO217 := zm (Kd.N_drew HO217.out)
        replace HO221 := zm (Kd.N_drew HO221.out)
        replace BK205 := zm (blk_drew BK205.out)
        replace HR214_0 := zm (Kd.C_drew HR214_0.out)
        replace HR214_1 := zm (Kd.C_drew HR214_1.out)
        replace HR214_6 := zm (Kd.C_drew HR214_6.out)
        replace HR214_7 := zm (Kd.C_drew HR214_7.out)
        replace HR218_0 := zm (Kd.C_drew HR218_0.out)
        replace HR218_1 := zm (Kd.C_drew HR218_1.out)
        replace HR218_6 := zm (Kd.C_drew HR218_6.out)
        replace HR218_7 := zm (Kd.C_drew HR218_7.out)
        replace HB := zm (below_drew1 HB.out)
        have p222 : 0 ≤ (x4_1 : Int) := of_decide_eq_true (by first | (with_reducible assumption) | assumption)
        have q222 : x4_1 < (t207.length : Int) := of_decide_eq_true (by first | (with_reducible assumption) | assumption)
        obtain ⟨ad222, A222_0, c222_0, A222_1, c222_1, A222_6, c222_6, A222_7, c222_7, e222, hx222_0, hx222_1, hx222_2, hx222_3, hx222_4, hx222_5, hx222_6, hx222_7, hl222_0, hi222_0, hl222_1, hi222_1, hl222_6, hi222_6, hl222_7, hi222_7⟩ := at_T34 (Kd.V_reads' HO_206001.out).2.2 x4_1 p222 q222
        obtain rfl : ad214 = ad222 := (by injection e222)
        obtain ⟨ce222, hce222, hMe222, hcc222⟩ := Kd.V_get HO_206001.out z34 x4_1 p222 (by first | exact q222 | exact of_decide_eq_true (by first | (with_reducible assumption) | assumption) | (have e_ := (Kd.V_reads' HO_206001.out).1; omega))
        obtain ⟨ua222_0, uc222_0, ua222_1, uc222_1, ua222_6, uc222_6, ua222_7, uc222_7, rfl, ul222_0, ge222_0, ul222_1, ge222_1, ul222_6, ge222_6, ul222_7, ge222_7⟩ := k34_openF hMe222
        have hv222_0 := hcc222 0 _ rfl
        rw [Nat.add_zero] at hv222_0
        replace hv222_0 := Option.some.inj (hv222_0.symm.trans hx222_0)
        injection hv222_0 with hva_ hvn_ hvc_
        rw [hva_] at ge222_0
        rw [hvc_] at ul222_0
        have HL222_0 := zm (show Kd.V (Kd.int .i64) 3 _ w.heap.size _ _ ((rd_T34 t207 x4_1).f0) from Kd.V_mk ul222_0 ge222_0)
        clear hva_ hvn_ hvc_ ge222_0 ul222_0
        have hv222_1 := hcc222 1 _ rfl
        rw [add_field _ _ 1 (by omega)] at hv222_1
        replace hv222_1 := Option.some.inj (hv222_1.symm.trans hx222_1)
        injection hv222_1 with hva_ hvn_ hvc_
        rw [hva_] at ge222_1
        rw [hvc_] at ul222_1
        have HL222_1 := zm (show Kd.V k84 84 _ w.heap.size _ _ ((rd_T34 t207 x4_1).f1) from Kd.V_mk ul222_1 ge222_1)
        clear hva_ hvn_ hvc_ ge222_1 ul222_1
        have hv222_6 := hcc222 6 _ rfl
        rw [add_field _ _ 6 (by omega)] at hv222_6
        replace hv222_6 := Option.some.inj (hv222_6.symm.trans hx222_6)
        injection hv222_6 with hva_ hvn_ hvc_
        rw [hva_] at ge222_6
        rw [hvc_] at ul222_6
        have HL222_6 := zm (show Kd.V (Kd.int .i64) 3 _ w.heap.size _ _ ((rd_T34 t207 x4_1).f2.f4) from Kd.V_mk ul222_6 ge222_6)
        clear hva_ hvn_ hvc_ ge222_6 ul222_6
        have hv222_7 := hcc222 7 _ rfl
        rw [add_field _ _ 7 (by omega)] at hv222_7
        replace hv222_7 := Option.some.inj (hv222_7.symm.trans hx222_7)
        injection hv222_7 with hva_ hvn_ hvc_
        rw [hva_] at ge222_7
        rw [hvc_] at ul222_7
        have HL222_7 := zm (show Kd.V (Kd.int .i64) 3 _ w.heap.size _ _ ((rd_T34 t207 x4_1).f2.f5) from Kd.V_mk ul222_7 ge222_7)
        clear hva_ hvn_ hvc_ ge222_7 ul222_7
        clear hcc222 hce222
        have HR222_0 := zm hi222_0
        have HC222_0 := zm hl222_0
        clear hi222_0 hl222_0
        have HR222_1 := zm hi222_1
        have HC222_1 := zm hl222_1
        clear hi222_1 hl222_1
        have HR222_6 := zm hi222_6
        have HC222_6 := zm hl222_6
        clear hi222_6 hl222_6
        have HR222_7 := zm hi222_7
        have HC222_7 := zm hl222_7
        clear hi222_7 hl222_7
        replace p222 := eq_true p222
        replace q222 := eq_true q222
        have p226 : 0 ≤ (x4_1 : Int) := of_decide_eq_true (by first | (with_reducible assumption) | assumption)
        have q226 : x4_1 < (t207.length : Int) := of_decide_eq_true (by first | (with_reducible assumption) | assumption)
        obtain ⟨ad226, A226_0, c226_0, A226_1, c226_1, A226_6, c226_6, A226_7, c226_7, e226, hx226_0, hx226_1, hx226_2, hx226_3, hx226_4, hx226_5, hx226_6, hx226_7, hl226_0, hi226_0, hl226_1, hi226_1, hl226_6, hi226_6, hl226_7, hi226_7⟩ := at_T34 (Kd.V_reads' HO_206001.out).2.2 x4_1 p226 q226
        obtain rfl : ad214 = ad226 := (by injection e226)
        obtain ⟨ce226, hce226, hMe226, hcc226⟩ := Kd.V_get HO_206001.out z34 x4_1 p226 (by first | exact q226 | exact of_decide_eq_true (by first | (with_reducible assumption) | assumption) | (have e_ := (Kd.V_reads' HO_206001.out).1; omega))
        obtain ⟨ua226_0, uc226_0, ua226_1, uc226_1, ua226_6, uc226_6, ua226_7, uc226_7, rfl, ul226_0, ge226_0, ul226_1, ge226_1, ul226_6, ge226_6, ul226_7, ge226_7⟩ := k34_openF hMe226
        have hv226_0 := hcc226 0 _ rfl
        rw [Nat.add_zero] at hv226_0
        replace hv226_0 := Option.some.inj (hv226_0.symm.trans hx226_0)
        injection hv226_0 with hva_ hvn_ hvc_
        rw [hva_] at ge226_0
        rw [hvc_] at ul226_0
        have HL226_0 := zm (show Kd.V (Kd.int .i64) 3 _ w.heap.size _ _ ((rd_T34 t207 x4_1).f0) from Kd.V_mk ul226_0 ge226_0)
        clear hva_ hvn_ hvc_ ge226_0 ul226_0
        have hv226_1 := hcc226 1 _ rfl
        rw [add_field _ _ 1 (by omega)] at hv226_1
        replace hv226_1 := Option.some.inj (hv226_1.symm.trans hx226_1)
        injection hv226_1 with hva_ hvn_ hvc_
        rw [hva_] at ge226_1
        rw [hvc_] at ul226_1
        have HL226_1 := zm (show Kd.V k84 84 _ w.heap.size _ _ ((rd_T34 t207 x4_1).f1) from Kd.V_mk ul226_1 ge226_1)
        clear hva_ hvn_ hvc_ ge226_1 ul226_1
        have hv226_6 := hcc226 6 _ rfl
        rw [add_field _ _ 6 (by omega)] at hv226_6
        replace hv226_6 := Option.some.inj (hv226_6.symm.trans hx226_6)
        injection hv226_6 with hva_ hvn_ hvc_
        rw [hva_] at ge226_6
        rw [hvc_] at ul226_6
        have HL226_6 := zm (show Kd.V (Kd.int .i64) 3 _ w.heap.size _ _ ((rd_T34 t207 x4_1).f2.f4) from Kd.V_mk ul226_6 ge226_6)
        clear hva_ hvn_ hvc_ ge226_6 ul226_6
        have hv226_7 := hcc226 7 _ rfl
        rw [add_field _ _ 7 (by omega)] at hv226_7
        replace hv226_7 := Option.some.inj (hv226_7.symm.trans hx226_7)
        injection hv226_7 with hva_ hvn_ hvc_
        rw [hva_] at ge226_7
        rw [hvc_] at ul226_7
        have HL226_7 := zm (show Kd.V (Kd.int .i64) 3 _ w.heap.size _ _ ((rd_T34 t207 x4_1).f2.f5) from Kd.V_mk ul226_7 ge226_7)
        clear hva_ hvn_ hvc_ ge226_7 ul226_7
        clear hcc226 hce226
        have HR226_0 := zm hi226_0
        have HC226_0 := zm hl226_0
        clear hi226_0 hl226_0
        have HR226_1 := zm hi226_1
        have HC226_1 := zm hl226_1
        clear hi226_1 hl226_1
        have HR226_6 := zm hi226_6
        have HC226_6 := zm hl226_6
        clear hi226_6 hl226_6
        have HR226_7 := zm hi226_7
        have HC226_7 := zm hl226_7
        clear hi226_7 hl226_7
        replace p226 := eq_true p226
        replace q226 := eq_true q226
        have ea_ := Option.some.inj (hx222_0.symm.trans hx226_0)
        injection ea_ with ea_ en_ ec_
        subst ea_
        subst ec_
        clear en_
        have ea_ := Option.some.inj (hx222_1.symm.trans hx226_1)
        injection ea_ with ea_ en_ ec_
        subst ea_
        subst ec_
        clear en_
        have ea_ := Option.some.inj (hx222_6.symm.trans hx226_6)
        injection ea_ with ea_ en_ ec_
        subst ea_
        subst ec_
        clear en_
        have ea_ := Option.some.inj (hx222_7.symm.trans hx226_7)
        injection ea_ with ea_ en_ ec_
        subst ea_
        subst ec_
        clear en_
        refine start_ (n := 32) (S := fun w' => w'.cell? ⟨gb205, 0, none⟩ = some (.int .i64 t206) ∧ w'.cell? ⟨gb205, 1, none⟩ = some (.slice (some ad214) t207.length co9) ∧ w'.cell? (ad214.add ((x4_1).toNat * 8)) = some (.slice A222_0 ((rd_T34 t207 x4_1).f0).length c222_0) ∧ w'.cell? ⟨(ad214.add ((x4_1).toNat * 8)).block, (ad214.add ((x4_1).toNat * 8)).off + 1, none⟩ = some (.slice A222_1 ((rd_T34 t207 x4_1).f1).length c222_1) ∧ w'.cell? ⟨(ad214.add ((x4_1).toNat * 8)).block, (ad214.add ((x4_1).toNat * 8)).off + 2, none⟩ = some (.int .i64 ((rd_T34 t207 x4_1).f2.f0)) ∧ w'.cell? ⟨(ad214.add ((x4_1).toNat * 8)).block, (ad214.add ((x4_1).toNat * 8)).off + 3, none⟩ = some (.int .i64 ((rd_T34 t207 x4_1).f2.f1)) ∧ w'.cell? ⟨(ad214.add ((x4_1).toNat * 8)).block, (ad214.add ((x4_1).toNat * 8)).off + 4, none⟩ = some (.int .i64 ((rd_T34 t207 x4_1).f2.f2)) ∧ w'.cell? ⟨(ad214.add ((x4_1).toNat * 8)).block, (ad214.add ((x4_1).toNat * 8)).off + 5, none⟩ = some (.int .i64 ((rd_T34 t207 x4_1).f2.f3)) ∧ w'.cell? ⟨(ad214.add ((x4_1).toNat * 8)).block, (ad214.add ((x4_1).toNat * 8)).off + 6, none⟩ = some (.slice A222_6 ((rd_T34 t207 x4_1).f2.f4).length c222_6) ∧ w'.cell? ⟨(ad214.add ((x4_1).toNat * 8)).block, (ad214.add ((x4_1).toNat * 8)).off + 7, none⟩ = some (.slice A222_7 ((rd_T34 t207 x4_1).f2.f5).length c222_7) ∧ w'.cell? (ad214.add ((x4_1).toNat * 8)) = some (.slice A222_0 ((rd_T34 t207 x4_1).f0).length c222_0) ∧ w'.cell? ⟨(ad214.add ((x4_1).toNat * 8)).block, (ad214.add ((x4_1).toNat * 8)).off + 1, none⟩ = some (.slice A222_1 ((rd_T34 t207 x4_1).f1).length c222_1) ∧ w'.cell? ⟨(ad214.add ((x4_1).toNat * 8)).block, (ad214.add ((x4_1).toNat * 8)).off + 2, none⟩ = some (.int .i64 ((rd_T34 t207 x4_1).f2.f0)) ∧ w'.cell? ⟨(ad214.add ((x4_1).toNat * 8)).block, (ad214.add ((x4_1).toNat * 8)).off + 3, none⟩ = some (.int .i64 ((rd_T34 t207 x4_1).f2.f1)) ∧ w'.cell? ⟨(ad214.add ((x4_1).toNat * 8)).block, (ad214.add ((x4_1).toNat * 8)).off + 4, none⟩ = some (.int .i64 ((rd_T34 t207 x4_1).f2.f2)) ∧ w'.cell? ⟨(ad214.add ((x4_1).toNat * 8)).block, (ad214.add ((x4_1).toNat * 8)).off + 5, none⟩ = some (.int .i64 ((rd_T34 t207 x4_1).f2.f3)) ∧ w'.cell? ⟨(ad214.add ((x4_1).toNat * 8)).block, (ad214.add ((x4_1).toNat * 8)).off + 6, none⟩ = some (.slice A222_6 ((rd_T34 t207 x4_1).f2.f4).length c222_6) ∧ w'.cell? ⟨(ad214.add ((x4_1).toNat * 8)).block, (ad214.add ((x4_1).toNat * 8)).off + 7, none⟩ = some (.slice A222_7 ((rd_T34 t207 x4_1).f2.f5).length c222_7)) (ds := []) #[Z,Z,Z,Z,Z,Z,Z,Z,Z,Z,Z,Z,Z,Z,Z,Z,Z,Z,Z,Z,Z,Z,Z,Z,Z,Z,Z,Z,Z,Z,Z,Z] (by kernel_rfl) rfl rfl ⟨(blk_cell BK205.out 0).trans rfl, (blk_cell BK205.out 1).trans rfl, hx222_0, hx222_1, hx222_2, hx222_3, hx222_4, hx222_5, hx222_6, hx222_7, hx226_0, hx226_1, hx226_2, hx226_3, hx226_4, hx226_5, hx226_6, hx226_7⟩ (fun hHeld => ?_); refine with_tabW hallmarklaw07_CfgNext.tab9 hallmarklaw07_CfgNext.bits9 (fun HT_ HW_ => ?_)
        generalize w21.drew = w46 at HO_3 HO_206001 HL214_0 HL214_1 HL214_6 HL214_7 HL218_0 HL218_1 HL218_6 HL218_7 HO217 HO221 BK205 HR214_0 HR214_1 HR214_6 HR214_7 HR218_0 HR218_1 HR218_6 HR218_7 HB HL222_0 HL222_1 HL222_6 HL222_7 HL226_0 HL226_1 HL226_6 HL226_7 HR222_0 HR222_1 HR222_6 HR222_7 HR226_0 HR226_1 HR226_6 HR226_7 hx222_0 hx222_1 hx222_2 hx222_3 hx222_4 hx222_5 hx222_6 hx222_7 hx226_0 hx226_1 hx226_2 hx226_3 hx226_4 hx226_5 hx226_6 hx226_7 hHeld ⊢
        refine pure_ (i := 0) (N := some 39) (v := ?_) (a' := ?_) #[Y,Z,Z,Z,Z,Z,Z,Z,Z,Z,Z,Z,Z,Z,Z,Z,Z,Z,Z,Z,Z,Z,Z,Z,Z,Z,Z,Z,Z,Z,Z,Z] rfl rfl (any_of HT_.out (by kernel_rfl)) (fun _ _ _ h => h) (Or.inl ⟨by rfl, ?_⟩) ?_ ?_
        rotate_left
        ·intro w'
         go_simp
         with_reducible rfl
        rotate_left
        ·simp only [Act.put, zl1, zl2, zl3, i64_w, i32_w]
         rfl
        refine pure_ (i := 2) (N := some 41) (v := ?_) (a' := ?_) #[Y,Z,Y,Z,Z,Z,Z,Z,Z,Z,Z,Z,Z,Z,Z,Z,Z,Z,Z,Z,Z,Z,Z,Z,Z,Z,Z,Z,Z,Z,Z,Z] rfl rfl (any_of HT_.out (by kernel_rfl)) (fun _ _ _ h => h) (Or.inl ⟨by rfl, ?_⟩) ?_ ?_
        rotate_left
        ·intro w'
         go_simp
         with_reducible rfl
        rotate_left
        ·simp only [Act.put, zl1, zl2, zl3, i64_w, i32_w]
         rfl
        refine pure_ (i := 6) (N := some 45) (v := ?_) (a' := ?_) #[Y,Z,Y,Z,Z,Z,Y,Z,Z,Z,Z,Z,Z,Z,Z,Z,Z,Z,Z,Z,Z,Z,Z,Z,Z,Z,Z,Z,Z,Z,Z,Z] rfl rfl (any_of HT_.out (by kernel_rfl)) (fun _ _ _ h => h) (Or.inl ⟨by rfl, ?_⟩) ?_ ?_
        rotate_left
        ·intro w'
         go_simp
         with_reducible rfl
        rotate_left
        ·simp only [Act.put, zl1, zl2, zl3, i64_w, i32_w]
         rfl
        refine pure_ (i := 8) (N := some 47) (v := ?_) (a' := ?_) #[Y,Z,Y,Z,Z,Z,Y,Z,Y,Z,Z,Z,Z,Z,Z,Z,Z,Z,Z,Z,Z,Z,Z,Z,Z,Z,Z,Z,Z,Z,Z,Z] rfl rfl (any_of HT_.out (by kernel_rfl)) (fun _ _ _ h => h) (Or.inl ⟨by rfl, ?_⟩) ?_ ?_
        rotate_left
        ·intro w'
         go_simp
         with_reducible rfl
        rotate_left
        ·simp only [Act.put, zl1, zl2, zl3, i64_w, i32_w]
         rfl
        refine take_ (i := 1) (N := some 40) (v := ?_) (a' := ?_) #[Y,Y,Y,Z,Z,Z,Y,Z,Y,Z,Z,Z,Z,Z,Z,Z,Z,Z,Z,Z,Z,Z,Z,Z,Z,Z,Z,Z,Z,Z,Z,Z] rfl rfl (take_ofW HT_.out HW_.out (by kernel_rfl)) (fun _ _ _ h => h) (Or.inl ⟨by rfl, ?_⟩) hHeld ?_ ?_
        rotate_left
        ·rintro w' ⟨s0, s1, s2, s3, s4, s5, s6, s7, s8, s9, s10, s11, s12, s13, s14, s15, s16, s17⟩
         go_simp
         with_reducible rfl
        rotate_left
        ·simp only [Act.put, zl1, zl2, zl3, i64_w, i32_w]
         rfl
        refine pure_ (i := 3) (N := some 42) (v := ?_) (a' := ?_) #[Y,Y,Y,Y,Z,Z,Y,Z,Y,Z,Z,Z,Z,Z,Z,Z,Z,Z,Z,Z,Z,Z,Z,Z,Z,Z,Z,Z,Z,Z,Z,Z] rfl rfl (any_of HT_.out (by kernel_rfl)) (fun _ _ _ h => h) (Or.inl ⟨by rfl, ?_⟩) ?_ ?_
        rotate_left
        ·intro w'
         go_simp
         with_reducible rfl
        rotate_left
        ·simp only [Act.put, zl1, zl2, zl3, i64_w, i32_w]
         rfl
        refine take_ (i := 4) (N := some 43) (v := ?_) (a' := ?_) #[Y,Y,Y,Y,Y,Z,Y,Z,Y,Z,Z,Z,Z,Z,Z,Z,Z,Z,Z,Z,Z,Z,Z,Z,Z,Z,Z,Z,Z,Z,Z,Z] rfl rfl (take_ofW HT_.out HW_.out (by kernel_rfl)) (fun _ _ _ h => h) (Or.inl ⟨by rfl, ?_⟩) hHeld ?_ ?_
        rotate_left
        ·rintro w' ⟨s0, s1, s2, s3, s4, s5, s6, s7, s8, s9, s10, s11, s12, s13, s14, s15, s16, s17⟩
         go_simp
         with_reducible rfl
        rotate_left
        ·simp only [Act.put, zl1, zl2, zl3, i64_w, i32_w]
         rfl
        refine take_ (i := 7) (N := some 46) (v := ?_) (a' := ?_) #[Y,Y,Y,Y,Y,Z,Y,Y,Y,Z,Z,Z,Z,Z,Z,Z,Z,Z,Z,Z,Z,Z,Z,Z,Z,Z,Z,Z,Z,Z,Z,Z] rfl rfl (take_ofW HT_.out HW_.out (by kernel_rfl)) (fun _ _ _ h => h) (Or.inl ⟨by rfl, ?_⟩) hHeld ?_ ?_
        rotate_left
        ·rintro w' ⟨s0, s1, s2, s3, s4, s5, s6, s7, s8, s9, s10, s11, s12, s13, s14, s15, s16, s17⟩
         go_simp
         with_reducible rfl
        rotate_left
        ·simp only [Act.put, zl1, zl2, zl3, i64_w, i32_w]
         rfl
        refine pure_ (i := 9) (N := some 48) (v := ?_) (a' := ?_) #[Y,Y,Y,Y,Y,Z,Y,Y,Y,Y,Z,Z,Z,Z,Z,Z,Z,Z,Z,Z,Z,Z,Z,Z,Z,Z,Z,Z,Z,Z,Z,Z] rfl rfl (any_of HT_.out (by kernel_rfl)) (fun _ _ _ h => h) (Or.inl ⟨by rfl, ?_⟩) ?_ ?_
        rotate_left
        ·intro w'
         go_simp
         with_reducible rfl
        rotate_left
        ·simp only [Act.put, zl1, zl2, zl3, i64_w, i32_w]
         rfl
        refine take_ (i := 10) (N := some 49) (v := ?_) (a' := ?_) #[Y,Y,Y,Y,Y,Z,Y,Y,Y,Y,Y,Z,Z,Z,Z,Z,Z,Z,Z,Z,Z,Z,Z,Z,Z,Z,Z,Z,Z,Z,Z,Z] rfl rfl (take_ofW HT_.out HW_.out (by kernel_rfl)) (fun _ _ _ h => h) (Or.inl ⟨by rfl, ?_⟩) hHeld ?_ ?_
        rotate_left
        ·rintro w' ⟨s0, s1, s2, s3, s4, s5, s6, s7, s8, s9, s10, s11, s12, s13, s14, s15, s16, s17⟩
         go_simp
         with_reducible rfl
        rotate_left
        ·simp only [Act.put, zl1, zl2, zl3, i64_w, i32_w]
         rfl
        refine one_ (i := 5) (N := some 44) #[Y,Y,Y,Y,Y,Y,Y,Y,Y,Y,Y,Z,Z,Z,Z,Z,Z,Z,Z,Z,Z,Z,Z,Z,Z,Z,Z,Z,Z,Z,Z,Z] rfl rfl (one_of HT_.out (by kernel_rfl)) (by decide) (fun K hK => ?_)
        refine goes_ Try.func21 (by kernel_rfl) rfl #[.agg #[.slice A222_0 ((rd_T34 t207 x4_1).f0).length c222_0, .slice A222_1 ((rd_T34 t207 x4_1).f1).length c222_1, .int .i64 ((rd_T34 t207 x4_1).f2.f0), .int .i64 ((rd_T34 t207 x4_1).f2.f1), .int .i64 ((rd_T34 t207 x4_1).f2.f2), .int .i64 ((rd_T34 t207 x4_1).f2.f3), .slice A222_6 ((rd_T34 t207 x4_1).f2.f4).length c222_6, .slice A222_7 ((rd_T34 t207 x4_1).f2.f5).length c222_7]] (by rfl) rfl rfl (by (try simp only [List.map_toArray, List.map_cons, List.map_nil]); first | done | rfl | (simp only [List.length_drop, List.length_take]; rfl)) ?_
        with_reducible refine (cfg_Next.calls _ _ ((rd_T34 t207 x4_1).f0) _ _ ((rd_T34 t207 x4_1).f1) ((rd_T34 t207 x4_1).f2.f0) ((rd_T34 t207 x4_1).f2.f1) ((rd_T34 t207 x4_1).f2.f2) ((rd_T34 t207 x4_1).f2.f3) _ _ ((rd_T34 t207 x4_1).f2.f4) _ _ ((rd_T34 t207 x4_1).f2.f5) t223 _ ?side1 ?side2 ?side3 ?side4 ?side5 ?side6 ?side7 ?side8 A22.out).mono ?_
        (case side1 => repeat (first | exact HR222_0.out | (with_reducible refine Kd.C_alloc ?_ _) | (with_reducible refine Kd.C_drewN ?_ _) | (with_reducible refine Kd.C_drew ?_)))
        (case side2 => exact HC222_0.out)
        (case side3 => repeat (first | exact HR222_1.out | (with_reducible refine Kd.C_alloc ?_ _) | (with_reducible refine Kd.C_drewN ?_ _) | (with_reducible refine Kd.C_drew ?_)))
        (case side4 => exact HC222_1.out)
        (case side5 => repeat (first | exact HR222_6.out | (with_reducible refine Kd.C_alloc ?_ _) | (with_reducible refine Kd.C_drewN ?_ _) | (with_reducible refine Kd.C_drew ?_)))
        (case side6 => exact HC222_6.out)
        (case side7 => repeat (first | exact HR222_7.out | (with_reducible refine Kd.C_alloc ?_ _) | (with_reducible refine Kd.C_drewN ?_ _) | (with_reducible refine Kd.C_drew ?_)))
        (case side8 => exact HC222_7.out)
        rintro e w47 ⟨v224, rfl, ho0, hb⟩
        have HS2_ := zh hb (hHeld.2.2.1)
        have HS3_ := zh hb (hHeld.2.2.2.1)
        have HS4_ := zh hb (hHeld.2.2.2.2.1)
        have HS5_ := zh hb (hHeld.2.2.2.2.2.1)
        have HS6_ := zh hb (hHeld.2.2.2.2.2.2.1)
        have HS7_ := zh hb (hHeld.2.2.2.2.2.2.2.1)
        have HS8_ := zh hb (hHeld.2.2.2.2.2.2.2.2.1)
        have HS9_ := zh hb (hHeld.2.2.2.2.2.2.2.2.2.1)
        have HS10_ := zh hb (hHeld.2.2.2.2.2.2.2.2.2.2.1)
        have HS11_ := zh hb (hHeld.2.2.2.2.2.2.2.2.2.2.2.1)
        have HS12_ := zh hb (hHeld.2.2.2.2.2.2.2.2.2.2.2.2.1)
        have HS13_ := zh hb (hHeld.2.2.2.2.2.2.2.2.2.2.2.2.2.1)
        have HS14_ := zh hb (hHeld.2.2.2.2.2.2.2.2.2.2.2.2.2.2.1)
        have HS15_ := zh hb (hHeld.2.2.2.2.2.2.2.2.2.2.2.2.2.2.2.1)
        have HS16_ := zh hb (hHeld.2.2.2.2.2.2.2.2.2.2.2.2.2.2.2.2.1)
        have HS17_ := zh hb (hHeld.2.2.2.2.2.2.2.2.2.2.2.2.2.2.2.2.2)
        refine ⟨_, rfl, ?_⟩
        replace HO_3 := zm (Kd.N_elder' HO_3.out (Kd.R_base ho0) hb)
        replace HO_206001 := zm (Kd.V_elder' HO_206001.out (Kd.R_base ho0) hb)
        replace HO217 := zm (Kd.N_elder' HO217.out (Kd.R_base ho0) hb)
        replace HO221 := zm (Kd.N_elder' HO221.out (Kd.R_base ho0) hb)
        have HO225 := zm (Kd.R_lower ho0 (below_size (by repeat (first | (with_reducible first | exact HB.out | apply below_alloc | apply pw_below_drewN | apply below_drew1 | refine below_set ?_ GE205.out) | exact HB.out))))
        replace BK205 := zm (blk_below (g := gb205) (o := .cells #[.int .i64 t206, .slice (some ad214) t207.length co9] 24 (0, 0)) BK205.out hb)
        replace HR214_0 := zm (Kd.C_below HR214_0.out hb)
        replace HR214_1 := zm (Kd.C_below HR214_1.out hb)
        replace HR214_6 := zm (Kd.C_below HR214_6.out hb)
        replace HR214_7 := zm (Kd.C_below HR214_7.out hb)
        replace HR218_0 := zm (Kd.C_below HR218_0.out hb)
        replace HR218_1 := zm (Kd.C_below HR218_1.out hb)
        replace HR218_6 := zm (Kd.C_below HR218_6.out hb)
        replace HR218_7 := zm (Kd.C_below HR218_7.out hb)
        replace HR226_0 := zm (Kd.C_below HR226_0.out hb)
        replace HR226_1 := zm (Kd.C_below HR226_1.out hb)
        replace HR226_6 := zm (Kd.C_below HR226_6.out hb)
        replace HR226_7 := zm (Kd.C_below HR226_7.out hb)
        replace HB := zm (below_step (by repeat (first | (with_reducible first | exact HB.out | apply below_alloc | apply pw_below_drewN | apply below_drew1 | refine below_set ?_ GE205.out) | exact HB.out)) hb)
        (try clear hb)
        (try clear hb2)
        (try clear hk)
        (try clear hi)
        (try clear ho0)
        refine hK.out _ _ ⟨(blk_cell BK205.out 0).trans rfl, (blk_cell BK205.out 1).trans rfl, HS2_, HS3_, HS4_, HS5_, HS6_, HS7_, HS8_, HS9_, HS10_, HS11_, HS12_, HS13_, HS14_, HS15_, HS16_, HS17_⟩ (fun hHeld => ?_)
        clear hK K
        refine norm_ (a' := ?_) ?_ ?_
        rotate_left
        ·show Act.put _ (some 44) _ = _
         simp only [Act.put, zl1, zl2, zl3, i64_w, i32_w]
         rfl
        refine one_ (i := 11) (N := some 50) #[Y,Y,Y,Y,Y,Y,Y,Y,Y,Y,Y,Y,Z,Z,Z,Z,Z,Z,Z,Z,Z,Z,Z,Z,Z,Z,Z,Z,Z,Z,Z,Z] rfl rfl (one_of HT_.out (by kernel_rfl)) (by decide) (fun K hK => ?_)
        refine goes_ Try.func11 (by kernel_rfl) rfl #[.agg #[.slice A222_0 ((rd_T34 t207 x4_1).f0).length c222_0, .slice A222_1 ((rd_T34 t207 x4_1).f1).length c222_1, .int .i64 ((rd_T34 t207 x4_1).f2.f0), .int .i64 ((rd_T34 t207 x4_1).f2.f1), .int .i64 ((rd_T34 t207 x4_1).f2.f2), .int .i64 ((rd_T34 t207 x4_1).f2.f3), .slice A222_6 ((rd_T34 t207 x4_1).f2.f4).length c222_6, .slice A222_7 ((rd_T34 t207 x4_1).f2.f5).length c222_7]] (by rfl) rfl rfl (by (try simp only [List.map_toArray, List.map_cons, List.map_nil]); first | done | rfl | (simp only [List.length_drop, List.length_take]; rfl)) ?_
        with_reducible refine (hallmarkref07_Next.calls k1 _ _ ((rd_T34 t207 x4_1).f0) _ _ ((rd_T34 t207 x4_1).f1) ((rd_T34 t207 x4_1).f2.f0) ((rd_T34 t207 x4_1).f2.f1) ((rd_T34 t207 x4_1).f2.f2) ((rd_T34 t207 x4_1).f2.f3) _ _ ((rd_T34 t207 x4_1).f2.f4) _ _ ((rd_T34 t207 x4_1).f2.f5) t227 _ ?side1 ?side2 ?side3 ?side4 ?side5 ?side6 ?side7 ?side8 A23.out).mono ?_
        (case side1 => repeat (first | exact HR226_0.out | (with_reducible refine Kd.C_alloc ?_ _) | (with_reducible refine Kd.C_drewN ?_ _) | (with_reducible refine Kd.C_drew ?_)))
        (case side2 => exact HC226_0.out)
        (case side3 => repeat (first | exact HR226_1.out | (with_reducible refine Kd.C_alloc ?_ _) | (with_reducible refine Kd.C_drewN ?_ _) | (with_reducible refine Kd.C_drew ?_)))
        (case side4 => exact HC226_1.out)
        (case side5 => repeat (first | exact HR226_6.out | (with_reducible refine Kd.C_alloc ?_ _) | (with_reducible refine Kd.C_drewN ?_ _) | (with_reducible refine Kd.C_drew ?_)))
        (case side6 => exact HC226_6.out)
        (case side7 => repeat (first | exact HR226_7.out | (with_reducible refine Kd.C_alloc ?_ _) | (with_reducible refine Kd.C_drewN ?_ _) | (with_reducible refine Kd.C_drew ?_)))
        (case side8 => exact HC226_7.out)
        rintro e w48 ⟨v228, rfl, ho0, hb⟩
        have HS2_ := zh hb (hHeld.2.2.1)
        have HS3_ := zh hb (hHeld.2.2.2.1)
        have HS4_ := zh hb (hHeld.2.2.2.2.1)
        have HS5_ := zh hb (hHeld.2.2.2.2.2.1)
        have HS6_ := zh hb (hHeld.2.2.2.2.2.2.1)
        have HS7_ := zh hb (hHeld.2.2.2.2.2.2.2.1)
        have HS8_ := zh hb (hHeld.2.2.2.2.2.2.2.2.1)
        have HS9_ := zh hb (hHeld.2.2.2.2.2.2.2.2.2.1)
        have HS10_ := zh hb (hHeld.2.2.2.2.2.2.2.2.2.2.1)
        have HS11_ := zh hb (hHeld.2.2.2.2.2.2.2.2.2.2.2.1)
        have HS12_ := zh hb (hHeld.2.2.2.2.2.2.2.2.2.2.2.2.1)
        have HS13_ := zh hb (hHeld.2.2.2.2.2.2.2.2.2.2.2.2.2.1)
        have HS14_ := zh hb (hHeld.2.2.2.2.2.2.2.2.2.2.2.2.2.2.1)
        have HS15_ := zh hb (hHeld.2.2.2.2.2.2.2.2.2.2.2.2.2.2.2.1)
        have HS16_ := zh hb (hHeld.2.2.2.2.2.2.2.2.2.2.2.2.2.2.2.2.1)
        have HS17_ := zh hb (hHeld.2.2.2.2.2.2.2.2.2.2.2.2.2.2.2.2.2)
        refine ⟨_, rfl, ?_⟩
        replace HO_3 := zm (Kd.N_elder' HO_3.out (Kd.R_base ho0) hb)
        replace HO_206001 := zm (Kd.V_elder' HO_206001.out (Kd.R_base ho0) hb)
        replace HO217 := zm (Kd.N_elder' HO217.out (Kd.R_base ho0) hb)
        replace HO221 := zm (Kd.N_elder' HO221.out (Kd.R_base ho0) hb)
        have HO229 := zm (Kd.R_lower (Kd.R_new' ho0 (Kd.R_lt HO225.out)) (below_size (by repeat (first | (with_reducible first | exact HB.out | apply below_alloc | apply pw_below_drewN | apply below_drew1 | refine below_set ?_ GE205.out) | exact HB.out))))
        replace HO225 := zm (Kd.R_elder' HO225.out (Kd.R_base ho0) hb)
        replace BK205 := zm (blk_below (g := gb205) (o := .cells #[.int .i64 t206, .slice (some ad214) t207.length co9] 24 (0, 0)) BK205.out hb)
        replace HR214_0 := zm (Kd.C_below HR214_0.out hb)
        replace HR214_1 := zm (Kd.C_below HR214_1.out hb)
        replace HR214_6 := zm (Kd.C_below HR214_6.out hb)
        replace HR214_7 := zm (Kd.C_below HR214_7.out hb)
        replace HR218_0 := zm (Kd.C_below HR218_0.out hb)
        replace HR218_1 := zm (Kd.C_below HR218_1.out hb)
        replace HR218_6 := zm (Kd.C_below HR218_6.out hb)
        replace HR218_7 := zm (Kd.C_below HR218_7.out hb)
        replace HB := zm (below_step (by repeat (first | (with_reducible first | exact HB.out | apply below_alloc | apply pw_below_drewN | apply below_drew1 | refine below_set ?_ GE205.out) | exact HB.out)) hb)
        (try clear hb)
        (try clear hb2)
        (try clear hk)
        (try clear hi)
        (try clear ho0)
        obtain ⟨Ao49, co49, eo49⟩ := Kd.R_slice HO225.out
        (first | subst eo49 | (injection eo49 with f1_ f2_ f3_; have f4_ := f1_.symm; have f5_ := f3_.symm; clear f1_ f2_ f3_; subst f4_; subst f5_))
        obtain ⟨Ao50, co50, eo50⟩ := Kd.R_slice HO229.out
        (first | subst eo50 | (injection eo50 with f1_ f2_ f3_; have f4_ := f1_.symm; have f5_ := f3_.symm; clear f1_ f2_ f3_; subst f4_; subst f5_))
        refine hK.out _ _ ⟨(blk_cell BK205.out 0).trans rfl, (blk_cell BK205.out 1).trans rfl, HS2_, HS3_, HS4_, HS5_, HS6_, HS7_, HS8_, HS9_, HS10_, HS11_, HS12_, HS13_, HS14_, HS15_, HS16_, HS17_⟩ (fun hHeld => ?_)
        clear hK K
        refine norm_ (a' := ?_) ?_ ?_
        rotate_left
        ·show Act.put _ (some 50) _ = _
         simp only [Act.put, zl1, zl2, zl3, i64_w, i32_w]
         rfl
        refine one_ (i := 12) (N := some 51) #[Y,Y,Y,Y,Y,Y,Y,Y,Y,Y,Y,Y,Y,Z,Z,Z,Z,Z,Z,Z,Z,Z,Z,Z,Z,Z,Z,Z,Z,Z,Z,Z] rfl rfl (one_of HT_.out (by kernel_rfl)) (by decide) (fun K hK => ?_)
        refine goes_ Try.func14 (by kernel_rfl) rfl #[.slice Ao49 t223.length co49, .slice Ao50 t227.length co50] (by rfl) rfl rfl (by (try simp only [List.map_toArray, List.map_cons, List.map_nil]); first | done | rfl | (simp only [List.length_drop, List.length_take]; rfl)) ?_
        with_reducible refine (hallmarkref04_Ints.calls k1 _ _ t223 _ _ t227 false _ ?side1 ?side2 ?side3 ?side4 A24.out).mono ?_
        (case side1 => repeat (first | exact (Kd.R_reads' HO225.out).2.2 | (with_reducible refine Kd.C_alloc ?_ _) | (with_reducible refine Kd.C_drewN ?_ _) | (with_reducible refine Kd.C_drew ?_)))
        (case side2 => exact (Kd.R_reads' HO225.out).2.1)
        (case side3 => repeat (first | exact (Kd.R_reads' HO229.out).2.2 | (with_reducible refine Kd.C_alloc ?_ _) | (with_reducible refine Kd.C_drewN ?_ _) | (with_reducible refine Kd.C_drew ?_)))
        (case side4 => exact (Kd.R_reads' HO229.out).2.1)
        rintro e w' ⟨rfl, ⟨nd, rfl⟩⟩
        refine ⟨_, rfl, ?_⟩
        refine hK.out _ _ ⟨(blk_cell BK205.out 0).trans rfl, (blk_cell BK205.out 1).trans rfl, hHeld.2.2.1, hHeld.2.2.2.1, hHeld.2.2.2.2.1, hHeld.2.2.2.2.2.1, hHeld.2.2.2.2.2.2.1, hHeld.2.2.2.2.2.2.2.1, hHeld.2.2.2.2.2.2.2.2.1, hHeld.2.2.2.2.2.2.2.2.2.1, hHeld.2.2.2.2.2.2.2.2.2.2.1, hHeld.2.2.2.2.2.2.2.2.2.2.2.1, hHeld.2.2.2.2.2.2.2.2.2.2.2.2.1, hHeld.2.2.2.2.2.2.2.2.2.2.2.2.2.1, hHeld.2.2.2.2.2.2.2.2.2.2.2.2.2.2.1, hHeld.2.2.2.2.2.2.2.2.2.2.2.2.2.2.2.1, hHeld.2.2.2.2.2.2.2.2.2.2.2.2.2.2.2.2.1, hHeld.2.2.2.2.2.2.2.2.2.2.2.2.2.2.2.2.2⟩ (fun hHeld => ?_)
        clear hK K
        refine norm_ (a' := ?_) ?_ ?_
        rotate_left
        ·show Act.put _ (some 51) _ = _
         simp only [Act.put, zl1, zl2, zl3, i64_w, i32_w]
         rfl
        refine pure_ (i := 13) (N := some 52) (v := ?_) (a' := ?_) #[Y,Y,Y,Y,Y,Y,Y,Y,Y,Y,Y,Y,Y,Y,Z,Z,Z,Z,Z,Z,Z,Z,Z,Z,Z,Z,Z,Z,Z,Z,Z,Z] rfl rfl (any_of HT_.out (by kernel_rfl)) (fun _ _ _ h => h) (Or.inl ⟨by rfl, ?_⟩) ?_ ?_
        rotate_left
        ·intro w'
         go_simp
         with_reducible rfl
        rotate_left
        ·simp only [Act.put, zl1, zl2, zl3, i64_w, i32_w]
         rfl
        refine pure_ (i := 14) (N := some 53) (v := ?_) (a' := ?_) #[Y,Y,Y,Y,Y,Y,Y,Y,Y,Y,Y,Y,Y,Y,Y,Z,Z,Z,Z,Z,Z,Z,Z,Z,Z,Z,Z,Z,Z,Z,Z,Z] rfl rfl (any_of HT_.out (by kernel_rfl)) (fun _ _ _ h => h) (Or.inl ⟨by rfl, ?_⟩) ?_ ?_
        rotate_left
        ·intro w'
         go_simp
         with_reducible rfl
        rotate_left
        ·simp only [Act.put, zl1, zl2, zl3, i64_w, i32_w]
         rfl
        refine pure_ (i := 15) (N := some 54) (v := undef) (a' := ?_) #[Y,Y,Y,Y,Y,Y,Y,Y,Y,Y,Y,Y,Y,Y,Y,Y,Z,Z,Z,Z,Z,Z,Z,Z,Z,Z,Z,Z,Z,Z,Z,Z] rfl rfl (any_of HT_.out (by kernel_rfl)) (fun _ _ _ h => h) (Or.inr ⟨by rfl, rfl⟩) ?_ ?_
        rotate_left
        ·simp only [Act.put, zl1, zl2, zl3, i64_w, i32_w]
         rfl
        refine pure_ (i := 16) (N := some 55) (v := undef) (a' := ?_) #[Y,Y,Y,Y,Y,Y,Y,Y,Y,Y,Y,Y,Y,Y,Y,Y,Y,Z,Z,Z,Z,Z,Z,Z,Z,Z,Z,Z,Z,Z,Z,Z] rfl rfl (any_of HT_.out (by kernel_rfl)) (fun _ _ _ h => h) (Or.inr ⟨by rfl, rfl⟩) ?_ ?_
        rotate_left
        ·simp only [Act.put, zl1, zl2, zl3, i64_w, i32_w]
         rfl
        refine pure_ (i := 17) (N := some 56) (v := undef) (a' := ?_) #[Y,Y,Y,Y,Y,Y,Y,Y,Y,Y,Y,Y,Y,Y,Y,Y,Y,Y,Z,Z,Z,Z,Z,Z,Z,Z,Z,Z,Z,Z,Z,Z] rfl rfl (any_of HT_.out (by kernel_rfl)) (fun _ _ _ h => h) (Or.inr ⟨by rfl, rfl⟩) ?_ ?_
        rotate_left
        ·simp only [Act.put, zl1, zl2, zl3, i64_w, i32_w]
         rfl
        refine pure_ (i := 18) (N := some 57) (v := undef) (a' := ?_) #[Y,Y,Y,Y,Y,Y,Y,Y,Y,Y,Y,Y,Y,Y,Y,Y,Y,Y,Y,Z,Z,Z,Z,Z,Z,Z,Z,Z,Z,Z,Z,Z] rfl rfl (any_of HT_.out (by kernel_rfl)) (fun _ _ _ h => h) (Or.inr ⟨by rfl, rfl⟩) ?_ ?_
        rotate_left
        ·simp only [Act.put, zl1, zl2, zl3, i64_w, i32_w]
         rfl
        refine pure_ (i := 19) (N := some 58) (v := undef) (a' := ?_) #[Y,Y,Y,Y,Y,Y,Y,Y,Y,Y,Y,Y,Y,Y,Y,Y,Y,Y,Y,Y,Z,Z,Z,Z,Z,Z,Z,Z,Z,Z,Z,Z] rfl rfl (any_of HT_.out (by kernel_rfl)) (fun _ _ _ h => h) (Or.inr ⟨by rfl, rfl⟩) ?_ ?_
        rotate_left
        ·simp only [Act.put, zl1, zl2, zl3, i64_w, i32_w]
         rfl
        refine pure_ (i := 20) (N := some 59) (v := undef) (a' := ?_) #[Y,Y,Y,Y,Y,Y,Y,Y,Y,Y,Y,Y,Y,Y,Y,Y,Y,Y,Y,Y,Y,Z,Z,Z,Z,Z,Z,Z,Z,Z,Z,Z] rfl rfl (any_of HT_.out (by kernel_rfl)) (fun _ _ _ h => h) (Or.inr ⟨by rfl, rfl⟩) ?_ ?_
        rotate_left
        ·simp only [Act.put, zl1, zl2, zl3, i64_w, i32_w]
         rfl
        refine pure_ (i := 21) (N := some 60) (v := undef) (a' := ?_) #[Y,Y,Y,Y,Y,Y,Y,Y,Y,Y,Y,Y,Y,Y,Y,Y,Y,Y,Y,Y,Y,Y,Z,Z,Z,Z,Z,Z,Z,Z,Z,Z] rfl rfl (any_of HT_.out (by kernel_rfl)) (fun _ _ _ h => h) (Or.inr ⟨by rfl, rfl⟩) ?_ ?_
        rotate_left
        ·simp only [Act.put, zl1, zl2, zl3, i64_w, i32_w]
         rfl
        refine pure_ (i := 22) (N := some 61) (v := undef) (a' := ?_) #[Y,Y,Y,Y,Y,Y,Y,Y,Y,Y,Y,Y,Y,Y,Y,Y,Y,Y,Y,Y,Y,Y,Y,Z,Z,Z,Z,Z,Z,Z,Z,Z] rfl rfl (any_of HT_.out (by kernel_rfl)) (fun _ _ _ h => h) (Or.inr ⟨by rfl, rfl⟩) ?_ ?_
        rotate_left
        ·simp only [Act.put, zl1, zl2, zl3, i64_w, i32_w]
         rfl
        refine pure_ (i := 23) (N := some 62) (v := undef) (a' := ?_) #[Y,Y,Y,Y,Y,Y,Y,Y,Y,Y,Y,Y,Y,Y,Y,Y,Y,Y,Y,Y,Y,Y,Y,Y,Z,Z,Z,Z,Z,Z,Z,Z] rfl rfl (any_of HT_.out (by kernel_rfl)) (fun _ _ _ h => h) (Or.inr ⟨by rfl, rfl⟩) ?_ ?_
        rotate_left
        ·simp only [Act.put, zl1, zl2, zl3, i64_w, i32_w]
         rfl
        refine pure_ (i := 24) (N := some 63) (v := ?_) (a' := ?_) #[Y,Y,Y,Y,Y,Y,Y,Y,Y,Y,Y,Y,Y,Y,Y,Y,Y,Y,Y,Y,Y,Y,Y,Y,Y,Z,Z,Z,Z,Z,Z,Z] rfl rfl (any_of HT_.out (by kernel_rfl)) (fun _ _ _ h => h) (Or.inl ⟨by rfl, ?_⟩) ?_ ?_
        rotate_left
        ·intro w'
         go_simp
         with_reducible rfl
        rotate_left
        ·simp only [Act.put, zl1, zl2, zl3, i64_w, i32_w]
         rfl
        refine pure_ (i := 25) (N := some 64) (v := ?_) (a' := ?_) #[Y,Y,Y,Y,Y,Y,Y,Y,Y,Y,Y,Y,Y,Y,Y,Y,Y,Y,Y,Y,Y,Y,Y,Y,Y,Y,Z,Z,Z,Z,Z,Z] rfl rfl (any_of HT_.out (by kernel_rfl)) (fun _ _ _ h => h) (Or.inl ⟨by rfl, ?_⟩) ?_ ?_
        rotate_left
        ·intro w'
         go_simp
         with_reducible rfl
        rotate_left
        ·simp only [Act.put, zl1, zl2, zl3, i64_w, i32_w]
         rfl
        refine pure_ (i := 26) (N := some 65) (v := undef) (a' := ?_) #[Y,Y,Y,Y,Y,Y,Y,Y,Y,Y,Y,Y,Y,Y,Y,Y,Y,Y,Y,Y,Y,Y,Y,Y,Y,Y,Y,Z,Z,Z,Z,Z] rfl rfl (any_of HT_.out (by kernel_rfl)) (fun _ _ _ h => h) (Or.inr ⟨by rfl, rfl⟩) ?_ ?_
        rotate_left
        ·simp only [Act.put, zl1, zl2, zl3, i64_w, i32_w]
         rfl
        refine pure_ (i := 27) (N := some 66) (v := undef) (a' := ?_) #[Y,Y,Y,Y,Y,Y,Y,Y,Y,Y,Y,Y,Y,Y,Y,Y,Y,Y,Y,Y,Y,Y,Y,Y,Y,Y,Y,Y,Z,Z,Z,Z] rfl rfl (any_of HT_.out (by kernel_rfl)) (fun _ _ _ h => h) (Or.inr ⟨by rfl, rfl⟩) ?_ ?_
        rotate_left
        ·simp only [Act.put, zl1, zl2, zl3, i64_w, i32_w]
         rfl
        refine pure_ (i := 28) (N := some 67) (v := undef) (a' := ?_) #[Y,Y,Y,Y,Y,Y,Y,Y,Y,Y,Y,Y,Y,Y,Y,Y,Y,Y,Y,Y,Y,Y,Y,Y,Y,Y,Y,Y,Y,Z,Z,Z] rfl rfl (any_of HT_.out (by kernel_rfl)) (fun _ _ _ h => h) (Or.inr ⟨by rfl, rfl⟩) ?_ ?_
        rotate_left
        ·simp only [Act.put, zl1, zl2, zl3, i64_w, i32_w]
         rfl
        refine pure_ (i := 29) (N := some 68) (v := undef) (a' := ?_) #[Y,Y,Y,Y,Y,Y,Y,Y,Y,Y,Y,Y,Y,Y,Y,Y,Y,Y,Y,Y,Y,Y,Y,Y,Y,Y,Y,Y,Y,Y,Z,Z] rfl rfl (any_of HT_.out (by kernel_rfl)) (fun _ _ _ h => h) (Or.inr ⟨by rfl, rfl⟩) ?_ ?_
        rotate_left
        ·simp only [Act.put, zl1, zl2, zl3, i64_w, i32_w]
         rfl
        refine pure_ (i := 30) (N := some 69) (v := undef) (a' := ?_) #[Y,Y,Y,Y,Y,Y,Y,Y,Y,Y,Y,Y,Y,Y,Y,Y,Y,Y,Y,Y,Y,Y,Y,Y,Y,Y,Y,Y,Y,Y,Y,Z] rfl rfl (any_of HT_.out (by kernel_rfl)) (fun _ _ _ h => h) (Or.inr ⟨by rfl, rfl⟩) ?_ ?_
        rotate_left
        ·simp only [Act.put, zl1, zl2, zl3, i64_w, i32_w]
         rfl
        refine pure_ (i := 31) (N := some 70) (v := ?_) (a' := ?_) #[Y,Y,Y,Y,Y,Y,Y,Y,Y,Y,Y,Y,Y,Y,Y,Y,Y,Y,Y,Y,Y,Y,Y,Y,Y,Y,Y,Y,Y,Y,Y,Y] rfl rfl (any_of HT_.out (by kernel_rfl)) (fun _ _ _ h => h) (Or.inl ⟨by rfl, ?_⟩) ?_ ?_
        rotate_left
        ·intro w'
         go_simp
         with_reducible rfl
        rotate_left
        ·simp only [Act.put, zl1, zl2, zl3, i64_w, i32_w]
         rfl
        refine done_ (done_of HT_.out (by kernel_rfl)) ?_
        try go_wp2
        go_meet
        case rel => exact ⟨_, (true), (by first | rfl | (simp; done) | (simp [*]; done)), H', ⟨by have := HK1.out; first | omega | exact Nat.le_refl _⟩, ⟨by (with_reducible repeat (first | apply Kd.N_alloc | apply Kd.N_drewN | apply Kd.N_drew)); exact Kd.N_mono HO_3.out (fun _ hk => ⟨hk.1.1.1.2, ⟨hk.1.1.2, hk.1.1.1.1⟩⟩)⟩, ⟨by (with_reducible repeat (first | apply Kd.N_alloc | apply Kd.N_drewN | apply Kd.N_drew)); exact Kd.N_mono HO217.out (fun _ hk => ⟨hk.1.1.1.1, ⟨hk.1.1.2, hk.1.1.1.2⟩⟩)⟩, ⟨by (with_reducible repeat (first | apply Kd.N_alloc | apply Kd.N_drewN | apply Kd.N_drew)); exact Kd.N_mono HO221.out (fun _ hk => ⟨hk.1.1.1, ⟨hk.1.1.2.1, hk.1.1.2.2⟩⟩)⟩, ⟨by (with_reducible repeat (first | apply Kd.V_alloc | apply Kd.V_drewN | apply Kd.V_drew)); exact Kd.V_mono HO_206001.out (fun _ hk => ⟨hk.1.1.1.1.1, ⟨hk.1.1.1.2, ⟨hk.1.1.2, hk.1.1.1.1.2⟩⟩⟩)⟩, ⟨by (with_reducible repeat (first | refine blk_drewN ?_ _ | refine blk_drew ?_ | refine blk_alloc ?_ _)); exact BK205.out⟩, ⟨by repeat (first | (with_reducible exact HR214_0.out) | (with_reducible refine Kd.C_alloc ?_ _) | (with_reducible refine Kd.C_drewN ?_ _) | (with_reducible refine Kd.C_drew ?_) | exact HR214_0.out)⟩, ⟨by repeat (first | (with_reducible exact HR214_1.out) | (with_reducible refine Kd.C_alloc ?_ _) | (with_reducible refine Kd.C_drewN ?_ _) | (with_reducible refine Kd.C_drew ?_) | exact HR214_1.out)⟩, ⟨by repeat (first | (with_reducible exact HR214_6.out) | (with_reducible refine Kd.C_alloc ?_ _) | (with_reducible refine Kd.C_drewN ?_ _) | (with_reducible refine Kd.C_drew ?_) | exact HR214_6.out)⟩, ⟨by repeat (first | (with_reducible exact HR214_7.out) | (with_reducible refine Kd.C_alloc ?_ _) | (with_reducible refine Kd.C_drewN ?_ _) | (with_reducible refine Kd.C_drew ?_) | exact HR214_7.out)⟩, ⟨by repeat (first | (with_reducible exact HR218_0.out) | (with_reducible refine Kd.C_alloc ?_ _) | (with_reducible refine Kd.C_drewN ?_ _) | (with_reducible refine Kd.C_drew ?_) | exact HR218_0.out)⟩, ⟨by repeat (first | (with_reducible exact HR218_1.out) | (with_reducible refine Kd.C_alloc ?_ _) | (with_reducible refine Kd.C_drewN ?_ _) | (with_reducible refine Kd.C_drew ?_) | exact HR218_1.out)⟩, ⟨by repeat (first | (with_reducible exact HR218_6.out) | (with_reducible refine Kd.C_alloc ?_ _) | (with_reducible refine Kd.C_drewN ?_ _) | (with_reducible refine Kd.C_drew ?_) | exact HR218_6.out)⟩, ⟨by repeat (first | (with_reducible exact HR218_7.out) | (with_reducible refine Kd.C_alloc ?_ _) | (with_reducible refine Kd.C_drewN ?_ _) | (with_reducible refine Kd.C_drew ?_) | exact HR218_7.out)⟩, ⟨by repeat (first | (with_reducible first | exact HB.out | apply below_alloc | apply pw_below_drewN | apply below_drew1 | refine below_set ?_ GE205.out) | exact HB.out)⟩⟩
      case rest =>
       clear HC17
       try clear c1
       try clear c2
       try clear p2
       try clear q2
       try clear hx2
       try clear c11
       try clear c14
       try clear c21
       try clear c22
       try clear p22
       try clear q22
       try clear hx22
       try clear hx222_0
       try clear hx222_1
       try clear hx222_2
       try clear hx222_3
       try clear hx222_4
       try clear hx222_5
       try clear hx222_6
       try clear hx222_7
       try clear hx226_0
       try clear hx226_1
       try clear hx226_2
       try clear hx226_3
       try clear hx226_4
       try clear hx226_5
       try clear hx226_6
       try clear hx226_7
       try clear p222
       try clear p226
       try clear q222
       try clear q226
       obtain ⟨kq, x70_16, rfl, HA, HJ16, HO_3, HO_5, HO_6, HO_206001, BK205, HR214_0, HR214_1, HR214_6, HR214_7, HR218_0, HR218_1, HR218_6, HR218_7, HB⟩ := hcut
       cases kq with
       | zero => exact absurd HA.out (by simp [hallmarklaw07_CfgNext.j1])
       | succ kj16 =>
        have H := HA.out
        clear HA
        simp only [hallmarklaw07_CfgNext.j1] at H
        by_cases c51 : x70_16 = true
        ·subst c51
         have H1 : (some false) = some r := by rw [if_pos rfl] at H; exact H
         clear H
         have H := H1
         clear H1
         obtain rfl := Option.some.inj H
         go_wp2
         go_ret
         exact ⟨by first | rfl | (simp [errW_none, errW_some] <;> rfl) | (simp [*, errW_none, errW_some] <;> rfl), by repeat (first | (with_reducible first | exact HB.out | apply below_alloc | apply pw_below_drewN | apply below_drew1 | refine below_set ?_ GE205.out) | exact HB.out)⟩
        ·replace c51 := Bool.eq_false_iff.mpr c51
         subst c51
         have H1 : (hallmarklaw07_CfgNext.l1 kj16 t210 x4_1 t215 t219 0 t206 t207) = some r := by rw [if_neg (show ¬ (false = true) by decide)] at H; exact H
         clear H
         have H := H1
         clear H1
         have H' := zm H
         clear H
         go_wp2
         go_loopg [7] kj16 (fun kq v7 w' => ∃ (x7_3 : Int), v7 = .int .i64 x7_3 ∧ Aside0 (hallmarklaw07_CfgNext.l1 kq t210 x4_1 t215 t219 x7_3 t206 t207 = some r) ∧ Aside0 (kq ≤ kj16) ∧ Aside0 (Kd.N (Kd.slice 3 (Kd.int .i64)) 26 w' w.heap.size (fun k_ => some k_ ≠ (v216 : Value).ownBlock ∧ some k_ ≠ (v220 : Value).ownBlock ∧ k_ ≠ gb205) (.slice Ao11 t210.length co11) t210) ∧ Aside0 (Kd.N k46 46 w' w.heap.size (fun k_ => some k_ ≠ ((.slice Ao11 t210.length co11) : Value).ownBlock ∧ some k_ ≠ (v220 : Value).ownBlock ∧ k_ ≠ gb205) v216 t215) ∧ Aside0 (Kd.N k46 46 w' w.heap.size (fun k_ => some k_ ≠ ((.slice Ao11 t210.length co11) : Value).ownBlock ∧ some k_ ≠ (v216 : Value).ownBlock ∧ k_ ≠ gb205) v220 t219) ∧ Aside0 (Kd.V k34 34 w' w.heap.size (fun k_ => some k_ ≠ ((.slice Ao11 t210.length co11) : Value).ownBlock ∧ some k_ ≠ (v216 : Value).ownBlock ∧ some k_ ≠ (v220 : Value).ownBlock ∧ k_ ≠ gb205) (.slice (some ad214) t207.length co9) t207) ∧ Aside0 (w'.heap[gb205]? = some (.cells #[.int .i64 t206, (.slice (some ad214) t207.length co9)] 24 (0, 0))) ∧ Aside0 (Kd.C (Kd.int .i64) w' A214_0 ((rd_T34 t207 x4_1).f0).length ((rd_T34 t207 x4_1).f0)) ∧ Aside0 (Kd.C k84 w' A214_1 ((rd_T34 t207 x4_1).f1).length ((rd_T34 t207 x4_1).f1)) ∧ Aside0 (Kd.C (Kd.int .i64) w' A214_6 ((rd_T34 t207 x4_1).f2.f4).length ((rd_T34 t207 x4_1).f2.f4)) ∧ Aside0 (Kd.C (Kd.int .i64) w' A214_7 ((rd_T34 t207 x4_1).f2.f5).length ((rd_T34 t207 x4_1).f2.f5)) ∧ Aside0 (Kd.C (Kd.int .i64) w' A214_0 ((rd_T34 t207 x4_1).f0).length ((rd_T34 t207 x4_1).f0)) ∧ Aside0 (Kd.C k84 w' A214_1 ((rd_T34 t207 x4_1).f1).length ((rd_T34 t207 x4_1).f1)) ∧ Aside0 (Kd.C (Kd.int .i64) w' A214_6 ((rd_T34 t207 x4_1).f2.f4).length ((rd_T34 t207 x4_1).f2.f4)) ∧ Aside0 (Kd.C (Kd.int .i64) w' A214_7 ((rd_T34 t207 x4_1).f2.f5).length ((rd_T34 t207 x4_1).f2.f5)) ∧ Aside0 (Below w.heap.size w w'))
         case atStart => exact ⟨(0), (by first | rfl | (simp; done) | (simp [*]; done)), H', ⟨Nat.le_refl _⟩, ⟨by (with_reducible repeat (first | apply Kd.N_alloc | apply Kd.N_drewN | apply Kd.N_drew)); exact HO_3.out⟩, ⟨by (with_reducible repeat (first | apply Kd.N_alloc | apply Kd.N_drewN | apply Kd.N_drew)); exact HO_5.out⟩, ⟨by (with_reducible repeat (first | apply Kd.N_alloc | apply Kd.N_drewN | apply Kd.N_drew)); exact HO_6.out⟩, ⟨by (with_reducible repeat (first | apply Kd.V_alloc | apply Kd.V_drewN | apply Kd.V_drew)); exact HO_206001.out⟩, ⟨by (with_reducible repeat (first | refine blk_drewN ?_ _ | refine blk_drew ?_ | refine blk_alloc ?_ _)); exact BK205.out⟩, ⟨by repeat (first | (with_reducible exact HR214_0.out) | (with_reducible refine Kd.C_alloc ?_ _) | (with_reducible refine Kd.C_drewN ?_ _) | (with_reducible refine Kd.C_drew ?_) | exact HR214_0.out)⟩, ⟨by repeat (first | (with_reducible exact HR214_1.out) | (with_reducible refine Kd.C_alloc ?_ _) | (with_reducible refine Kd.C_drewN ?_ _) | (with_reducible refine Kd.C_drew ?_) | exact HR214_1.out)⟩, ⟨by repeat (first | (with_reducible exact HR214_6.out) | (with_reducible refine Kd.C_alloc ?_ _) | (with_reducible refine Kd.C_drewN ?_ _) | (with_reducible refine Kd.C_drew ?_) | exact HR214_6.out)⟩, ⟨by repeat (first | (with_reducible exact HR214_7.out) | (with_reducible refine Kd.C_alloc ?_ _) | (with_reducible refine Kd.C_drewN ?_ _) | (with_reducible refine Kd.C_drew ?_) | exact HR214_7.out)⟩, ⟨by repeat (first | (with_reducible exact HR218_0.out) | (with_reducible refine Kd.C_alloc ?_ _) | (with_reducible refine Kd.C_drewN ?_ _) | (with_reducible refine Kd.C_drew ?_) | exact HR218_0.out)⟩, ⟨by repeat (first | (with_reducible exact HR218_1.out) | (with_reducible refine Kd.C_alloc ?_ _) | (with_reducible refine Kd.C_drewN ?_ _) | (with_reducible refine Kd.C_drew ?_) | exact HR218_1.out)⟩, ⟨by repeat (first | (with_reducible exact HR218_6.out) | (with_reducible refine Kd.C_alloc ?_ _) | (with_reducible refine Kd.C_drewN ?_ _) | (with_reducible refine Kd.C_drew ?_) | exact HR218_6.out)⟩, ⟨by repeat (first | (with_reducible exact HR218_7.out) | (with_reducible refine Kd.C_alloc ?_ _) | (with_reducible refine Kd.C_drewN ?_ _) | (with_reducible refine Kd.C_drew ?_) | exact HR218_7.out)⟩, ⟨by repeat (first | (with_reducible first | exact HB.out | apply below_alloc | apply pw_below_drewN | apply below_drew1 | refine below_set ?_ GE205.out) | exact HB.out)⟩⟩
         case round =>
          clear H'
          try clear c1
          try clear c2
          try clear p2
          try clear q2
          try clear hx2
          try clear c5
          try clear c11
          try clear c14
          try clear c21
          try clear c22
          try clear p22
          try clear q22
          try clear hx22
          try clear c51
          try clear hx222_0
          try clear hx222_1
          try clear hx222_2
          try clear hx222_3
          try clear hx222_4
          try clear hx222_5
          try clear hx222_6
          try clear hx222_7
          try clear hx226_0
          try clear hx226_1
          try clear hx226_2
          try clear hx226_3
          try clear hx226_4
          try clear hx226_5
          try clear hx226_6
          try clear hx226_7
          try clear p2
          try clear p22
          try clear p222
          try clear p226
          try clear q2
          try clear q22
          try clear q222
          try clear q226
          obtain ⟨x7_3, rfl, HA, HK3, HO_3, HO_5, HO_6, HO_206001, BK205, HR214_0, HR214_1, HR214_6, HR214_7, HR218_0, HR218_1, HR218_6, HR218_7, HB⟩ := hrel
          cases gk with
          | zero => exact absurd HA.out (by simp [hallmarklaw07_CfgNext.l1])
          | succ k3 =>
           have H := HA.out
           clear HA
           simp only [hallmarklaw07_CfgNext.l1] at H
           by_cases c52 : x7_3 < (t215.length : Int)
           ·rw [if_pos c52] at H
            have c52b0 : decide (x7_3 < (t215.length : Int)) = true := decide_eq_true c52
            clear c52
            by_cases c53 : 0 ≤ x7_3
            ·rw [if_pos c53] at H
             have c53b0 : decide (0 ≤ x7_3) = true := decide_eq_true c53
             clear c53
             by_cases c54 : x7_3 < (t219.length : Int)
             ·rw [if_pos c54] at H
              have c54b0 : decide (x7_3 < (t219.length : Int)) = true := decide_eq_true c54
              clear c54
              by_cases c55 : ((rd_T46 t215 x7_3).f0) = ((rd_T46 t219 x7_3).f0)
              ·rw [if_pos c55] at H
               have c55b0 : (((rd_T46 t215 x7_3).f0) == ((rd_T46 t219 x7_3).f0)) = true := beq_iff_eq.mpr c55
               have c55b1 : (((rd_T46 t215 x7_3).f0) != ((rd_T46 t219 x7_3).f0)) = false := bne_eq_false_iff_eq.mpr c55
               clear c55
               replace H := Option.bind_eq_some_iff.mp H
               obtain ⟨t240, A560, H⟩ := H
               replace H : (if t240 = true then (hallmarklaw07_CfgNext.l1 k3 t210 x4_1 t215 t219 (wrap64 (x7_3 + 1)) t206 t207) else (some false)) = some r := H
               have A56 := zm A560
               clear A560
               by_cases c57 : t240 = true
               ·subst c57
                have H1 : (hallmarklaw07_CfgNext.l1 k3 t210 x4_1 t215 t219 (wrap64 (x7_3 + 1)) t206 t207) = some r := by rw [if_pos rfl] at H; exact H
                clear H
                have H := H1
                clear H1
                have H' := zm H
                clear H
                obtain ⟨Ao58, co58, eo58⟩ := Kd.N_slice HO_5.out
                subst eo58
                try go_wp2
                replace HO_3 := zm (Kd.N_drew HO_3.out)
                replace HO_5 := zm (Kd.N_drew HO_5.out)
                replace HO_6 := zm (Kd.N_drew HO_6.out)
                replace HO_206001 := zm (Kd.V_drew HO_206001.out)
                replace BK205 := zm (blk_drew BK205.out)
                replace HR214_0 := zm (Kd.C_drew HR214_0.out)
                replace HR214_1 := zm (Kd.C_drew HR214_1.out)
                replace HR214_6 := zm (Kd.C_drew HR214_6.out)
                replace HR214_7 := zm (Kd.C_drew HR214_7.out)
                replace HR218_0 := zm (Kd.C_drew HR218_0.out)
                replace HR218_1 := zm (Kd.C_drew HR218_1.out)
                replace HR218_6 := zm (Kd.C_drew HR218_6.out)
                replace HR218_7 := zm (Kd.C_drew HR218_7.out)
                replace HB := zm (below_drew1 HB.out)
                have p236 : 0 ≤ (x7_3 : Int) := of_decide_eq_true (by first | (with_reducible assumption) | assumption)
                have q236 : x7_3 < (t215.length : Int) := of_decide_eq_true (by first | (with_reducible assumption) | assumption)
                obtain ⟨ad236, A236_1, c236_1, e236, hx236_0, hx236_1, hl236_1, hi236_1⟩ := at_T46 (Kd.N_reads' HO_5.out).2.2 x7_3 p236 q236
                cases e236
                obtain ⟨ce236, hce236, hMe236, hcc236⟩ := Kd.N_get HO_5.out z46 x7_3 p236 (by first | exact q236 | exact of_decide_eq_true (by first | (with_reducible assumption) | assumption) | (have e_ := (Kd.N_reads' HO_5.out).1; omega))
                obtain ⟨ua236_1, uc236_1, rfl, ul236_1, ge236_1⟩ := k46_openF hMe236
                have hv236_1 := hcc236 1 _ rfl
                rw [add_field _ _ 1 (by omega)] at hv236_1
                replace hv236_1 := Option.some.inj (hv236_1.symm.trans hx236_1)
                injection hv236_1 with hva_ hvn_ hvc_
                rw [hva_] at ge236_1
                rw [hvc_] at ul236_1
                have HL236_1 := zm (show Kd.V (Kd.int .i64) 3 _ w.heap.size _ _ ((rd_T46 t215 x7_3).f1) from Kd.V_mk ul236_1 ge236_1)
                clear hva_ hvn_ hvc_ ge236_1 ul236_1
                clear hcc236 hce236
                have HR236_1 := zm hi236_1
                have HC236_1 := zm hl236_1
                clear hi236_1 hl236_1
                replace p236 := eq_true p236
                replace q236 := eq_true q236
                obtain ⟨Ao60, co60, eo60⟩ := Kd.N_slice HO_6.out
                (first | subst eo60 | (injection eo60 with f1_ f2_ f3_; have f4_ := f1_.symm; have f5_ := f3_.symm; clear f1_ f2_ f3_; subst f4_; subst f5_))
                have p237 : 0 ≤ (x7_3 : Int) := of_decide_eq_true (by first | (with_reducible assumption) | assumption)
                have q237 : x7_3 < (t219.length : Int) := of_decide_eq_true (by first | (with_reducible assumption) | assumption)
                obtain ⟨ad237, A237_1, c237_1, e237, hx237_0, hx237_1, hl237_1, hi237_1⟩ := at_T46 (Kd.N_reads' HO_6.out).2.2 x7_3 p237 q237
                cases e237
                obtain ⟨ce237, hce237, hMe237, hcc237⟩ := Kd.N_get HO_6.out z46 x7_3 p237 (by first | exact q237 | exact of_decide_eq_true (by first | (with_reducible assumption) | assumption) | (have e_ := (Kd.N_reads' HO_6.out).1; omega))
                obtain ⟨ua237_1, uc237_1, rfl, ul237_1, ge237_1⟩ := k46_openF hMe237
                have hv237_1 := hcc237 1 _ rfl
                rw [add_field _ _ 1 (by omega)] at hv237_1
                replace hv237_1 := Option.some.inj (hv237_1.symm.trans hx237_1)
                injection hv237_1 with hva_ hvn_ hvc_
                rw [hva_] at ge237_1
                rw [hvc_] at ul237_1
                have HL237_1 := zm (show Kd.V (Kd.int .i64) 3 _ w.heap.size _ _ ((rd_T46 t219 x7_3).f1) from Kd.V_mk ul237_1 ge237_1)
                clear hva_ hvn_ hvc_ ge237_1 ul237_1
                clear hcc237 hce237
                have HR237_1 := zm hi237_1
                have HC237_1 := zm hl237_1
                clear hi237_1 hl237_1
                replace p237 := eq_true p237
                replace q237 := eq_true q237
                have p238 : 0 ≤ (x7_3 : Int) := of_decide_eq_true (by first | (with_reducible assumption) | assumption)
                have q238 : x7_3 < (t215.length : Int) := of_decide_eq_true (by first | (with_reducible assumption) | assumption)
                obtain ⟨ad238, A238_1, c238_1, e238, hx238_0, hx238_1, hl238_1, hi238_1⟩ := at_T46 (Kd.N_reads' HO_5.out).2.2 x7_3 p238 q238
                obtain rfl : ad236 = ad238 := (by injection e238)
                obtain ⟨ce238, hce238, hMe238, hcc238⟩ := Kd.N_get HO_5.out z46 x7_3 p238 (by first | exact q238 | exact of_decide_eq_true (by first | (with_reducible assumption) | assumption) | (have e_ := (Kd.N_reads' HO_5.out).1; omega))
                obtain ⟨ua238_1, uc238_1, rfl, ul238_1, ge238_1⟩ := k46_openF hMe238
                have hv238_1 := hcc238 1 _ rfl
                rw [add_field _ _ 1 (by omega)] at hv238_1
                replace hv238_1 := Option.some.inj (hv238_1.symm.trans hx238_1)
                injection hv238_1 with hva_ hvn_ hvc_
                rw [hva_] at ge238_1
                rw [hvc_] at ul238_1
                have HL238_1 := zm (show Kd.V (Kd.int .i64) 3 _ w.heap.size _ _ ((rd_T46 t215 x7_3).f1) from Kd.V_mk ul238_1 ge238_1)
                clear hva_ hvn_ hvc_ ge238_1 ul238_1
                clear hcc238 hce238
                have HR238_1 := zm hi238_1
                have HC238_1 := zm hl238_1
                clear hi238_1 hl238_1
                replace p238 := eq_true p238
                replace q238 := eq_true q238
                have ea_ := Option.some.inj (hx236_1.symm.trans hx238_1)
                injection ea_ with ea_ en_ ec_
                subst ea_
                subst ec_
                clear en_
                have p239 : 0 ≤ (x7_3 : Int) := of_decide_eq_true (by first | (with_reducible assumption) | assumption)
                have q239 : x7_3 < (t219.length : Int) := of_decide_eq_true (by first | (with_reducible assumption) | assumption)
                obtain ⟨ad239, A239_1, c239_1, e239, hx239_0, hx239_1, hl239_1, hi239_1⟩ := at_T46 (Kd.N_reads' HO_6.out).2.2 x7_3 p239 q239
                obtain rfl : ad237 = ad239 := (by injection e239)
                obtain ⟨ce239, hce239, hMe239, hcc239⟩ := Kd.N_get HO_6.out z46 x7_3 p239 (by first | exact q239 | exact of_decide_eq_true (by first | (with_reducible assumption) | assumption) | (have e_ := (Kd.N_reads' HO_6.out).1; omega))
                obtain ⟨ua239_1, uc239_1, rfl, ul239_1, ge239_1⟩ := k46_openF hMe239
                have hv239_1 := hcc239 1 _ rfl
                rw [add_field _ _ 1 (by omega)] at hv239_1
                replace hv239_1 := Option.some.inj (hv239_1.symm.trans hx239_1)
                injection hv239_1 with hva_ hvn_ hvc_
                rw [hva_] at ge239_1
                rw [hvc_] at ul239_1
                have HL239_1 := zm (show Kd.V (Kd.int .i64) 3 _ w.heap.size _ _ ((rd_T46 t219 x7_3).f1) from Kd.V_mk ul239_1 ge239_1)
                clear hva_ hvn_ hvc_ ge239_1 ul239_1
                clear hcc239 hce239
                have HR239_1 := zm hi239_1
                have HC239_1 := zm hl239_1
                clear hi239_1 hl239_1
                replace p239 := eq_true p239
                replace q239 := eq_true q239
                have ea_ := Option.some.inj (hx237_1.symm.trans hx239_1)
                injection ea_ with ea_ en_ ec_
                subst ea_
                subst ec_
                clear en_
                refine start_ (n := 25) (S := fun w' => w'.cell? (ad236.add ((x7_3).toNat * 2)) = some (.int .i64 ((rd_T46 t215 x7_3).f0)) ∧ w'.cell? ⟨(ad236.add ((x7_3).toNat * 2)).block, (ad236.add ((x7_3).toNat * 2)).off + 1, none⟩ = some (.slice A236_1 ((rd_T46 t215 x7_3).f1).length c236_1) ∧ w'.cell? (ad237.add ((x7_3).toNat * 2)) = some (.int .i64 ((rd_T46 t219 x7_3).f0)) ∧ w'.cell? ⟨(ad237.add ((x7_3).toNat * 2)).block, (ad237.add ((x7_3).toNat * 2)).off + 1, none⟩ = some (.slice A237_1 ((rd_T46 t219 x7_3).f1).length c237_1) ∧ w'.cell? (ad236.add ((x7_3).toNat * 2)) = some (.int .i64 ((rd_T46 t215 x7_3).f0)) ∧ w'.cell? ⟨(ad236.add ((x7_3).toNat * 2)).block, (ad236.add ((x7_3).toNat * 2)).off + 1, none⟩ = some (.slice A236_1 ((rd_T46 t215 x7_3).f1).length c236_1) ∧ w'.cell? (ad237.add ((x7_3).toNat * 2)) = some (.int .i64 ((rd_T46 t219 x7_3).f0)) ∧ w'.cell? ⟨(ad237.add ((x7_3).toNat * 2)).block, (ad237.add ((x7_3).toNat * 2)).off + 1, none⟩ = some (.slice A237_1 ((rd_T46 t219 x7_3).f1).length c237_1)) (ds := []) #[Z,Z,Z,Z,Z,Z,Z,Z,Z,Z,Z,Z,Z,Z,Z,Z,Z,Z,Z,Z,Z,Z,Z,Z,Z] (by kernel_rfl) rfl rfl ⟨hx236_0, hx236_1, hx237_0, hx237_1, hx238_0, hx238_1, hx239_0, hx239_1⟩ (fun hHeld => ?_); refine with_tabW hallmarklaw07_CfgNext.tab14 hallmarklaw07_CfgNext.bits14 (fun HT_ HW_ => ?_)
                generalize wr.drew = w59 at HO_3 HO_5 HO_6 HO_206001 BK205 HR214_0 HR214_1 HR214_6 HR214_7 HR218_0 HR218_1 HR218_6 HR218_7 HB HL236_1 HL237_1 HL238_1 HL239_1 HR236_1 HR237_1 HR238_1 HR239_1 hx236_0 hx236_1 hx237_0 hx237_1 hx238_0 hx238_1 hx239_0 hx239_1 hHeld ⊢
                refine pure_ (i := 0) (N := some 77) (v := ?_) (a' := ?_) #[Y,Z,Z,Z,Z,Z,Z,Z,Z,Z,Z,Z,Z,Z,Z,Z,Z,Z,Z,Z,Z,Z,Z,Z,Z] rfl rfl (any_of HT_.out (by kernel_rfl)) (fun _ _ _ h => h) (Or.inl ⟨by rfl, ?_⟩) ?_ ?_
                rotate_left
                ·intro w'
                 go_simp
                 with_reducible rfl
                rotate_left
                ·simp only [Act.put, zl1, zl2, zl3, i64_w, i32_w]
                 rfl
                refine pure_ (i := 1) (N := some 78) (v := ?_) (a' := ?_) #[Y,Y,Z,Z,Z,Z,Z,Z,Z,Z,Z,Z,Z,Z,Z,Z,Z,Z,Z,Z,Z,Z,Z,Z,Z] rfl rfl (any_of HT_.out (by kernel_rfl)) (fun _ _ _ h => h) (Or.inl ⟨by rfl, ?_⟩) ?_ ?_
                rotate_left
                ·intro w'
                 go_simp
                 with_reducible rfl
                rotate_left
                ·simp only [Act.put, zl1, zl2, zl3, i64_w, i32_w]
                 rfl
                refine pure_ (i := 2) (N := some 79) (v := ?_) (a' := ?_) #[Y,Y,Y,Z,Z,Z,Z,Z,Z,Z,Z,Z,Z,Z,Z,Z,Z,Z,Z,Z,Z,Z,Z,Z,Z] rfl rfl (any_of HT_.out (by kernel_rfl)) (fun _ _ _ h => h) (Or.inl ⟨by rfl, ?_⟩) ?_ ?_
                rotate_left
                ·intro w'
                 go_simp
                 with_reducible rfl
                rotate_left
                ·simp only [Act.put, zl1, zl2, zl3, i64_w, i32_w]
                 rfl
                refine pure_ (i := 3) (N := some 80) (v := ?_) (a' := ?_) #[Y,Y,Y,Y,Z,Z,Z,Z,Z,Z,Z,Z,Z,Z,Z,Z,Z,Z,Z,Z,Z,Z,Z,Z,Z] rfl rfl (any_of HT_.out (by kernel_rfl)) (fun _ _ _ h => h) (Or.inl ⟨by rfl, ?_⟩) ?_ ?_
                rotate_left
                ·intro w'
                 go_simp
                 with_reducible rfl
                rotate_left
                ·simp only [Act.put, zl1, zl2, zl3, i64_w, i32_w]
                 rfl
                refine pure_ (i := 5) (N := some 82) (v := ?_) (a' := ?_) #[Y,Y,Y,Y,Z,Y,Z,Z,Z,Z,Z,Z,Z,Z,Z,Z,Z,Z,Z,Z,Z,Z,Z,Z,Z] rfl rfl (any_of HT_.out (by kernel_rfl)) (fun _ _ _ h => h) (Or.inl ⟨by rfl, ?_⟩) ?_ ?_
                rotate_left
                ·intro w'
                 go_simp
                 with_reducible rfl
                rotate_left
                ·simp only [Act.put, zl1, zl2, zl3, i64_w, i32_w]
                 rfl
                refine pure_ (i := 6) (N := some 83) (v := ?_) (a' := ?_) #[Y,Y,Y,Y,Z,Y,Y,Z,Z,Z,Z,Z,Z,Z,Z,Z,Z,Z,Z,Z,Z,Z,Z,Z,Z] rfl rfl (any_of HT_.out (by kernel_rfl)) (fun _ _ _ h => h) (Or.inl ⟨by rfl, ?_⟩) ?_ ?_
                rotate_left
                ·intro w'
                 go_simp
                 with_reducible rfl
                rotate_left
                ·simp only [Act.put, zl1, zl2, zl3, i64_w, i32_w]
                 rfl
                refine pure_ (i := 7) (N := some 84) (v := ?_) (a' := ?_) #[Y,Y,Y,Y,Z,Y,Y,Y,Z,Z,Z,Z,Z,Z,Z,Z,Z,Z,Z,Z,Z,Z,Z,Z,Z] rfl rfl (any_of HT_.out (by kernel_rfl)) (fun _ _ _ h => h) (Or.inl ⟨by rfl, ?_⟩) ?_ ?_
                rotate_left
                ·intro w'
                 go_simp
                 with_reducible rfl
                rotate_left
                ·simp only [Act.put, zl1, zl2, zl3, i64_w, i32_w]
                 rfl
                refine pure_ (i := 8) (N := some 85) (v := ?_) (a' := ?_) #[Y,Y,Y,Y,Z,Y,Y,Y,Y,Z,Z,Z,Z,Z,Z,Z,Z,Z,Z,Z,Z,Z,Z,Z,Z] rfl rfl (any_of HT_.out (by kernel_rfl)) (fun _ _ _ h => h) (Or.inl ⟨by rfl, ?_⟩) ?_ ?_
                rotate_left
                ·intro w'
                 go_simp
                 with_reducible rfl
                rotate_left
                ·simp only [Act.put, zl1, zl2, zl3, i64_w, i32_w]
                 rfl
                refine take_ (i := 4) (N := some 81) (v := ?_) (a' := ?_) #[Y,Y,Y,Y,Y,Y,Y,Y,Y,Z,Z,Z,Z,Z,Z,Z,Z,Z,Z,Z,Z,Z,Z,Z,Z] rfl rfl (take_ofW HT_.out HW_.out (by kernel_rfl)) (fun _ _ _ h => h) (Or.inl ⟨by rfl, ?_⟩) hHeld ?_ ?_
                rotate_left
                ·rintro w' ⟨s0, s1, s2, s3, s4, s5, s6, s7⟩
                 go_simp
                 with_reducible rfl
                rotate_left
                ·simp only [Act.put, zl1, zl2, zl3, i64_w, i32_w]
                 rfl
                refine take_ (i := 9) (N := some 86) (v := ?_) (a' := ?_) #[Y,Y,Y,Y,Y,Y,Y,Y,Y,Y,Z,Z,Z,Z,Z,Z,Z,Z,Z,Z,Z,Z,Z,Z,Z] rfl rfl (take_ofW HT_.out HW_.out (by kernel_rfl)) (fun _ _ _ h => h) (Or.inl ⟨by rfl, ?_⟩) hHeld ?_ ?_
                rotate_left
                ·rintro w' ⟨s0, s1, s2, s3, s4, s5, s6, s7⟩
                 go_simp
                 with_reducible rfl
                rotate_left
                ·simp only [Act.put, zl1, zl2, zl3, i64_w, i32_w]
                 rfl
                refine pure_ (i := 10) (N := some 87) (v := ?_) (a' := ?_) #[Y,Y,Y,Y,Y,Y,Y,Y,Y,Y,Y,Z,Z,Z,Z,Z,Z,Z,Z,Z,Z,Z,Z,Z,Z] rfl rfl (any_of HT_.out (by kernel_rfl)) (fun _ _ _ h => h) (Or.inl ⟨by rfl, ?_⟩) ?_ ?_
                rotate_left
                ·intro w'
                 go_simp
                 with_reducible rfl
                rotate_left
                ·simp only [Act.put, zl1, zl2, zl3, i64_w, i32_w]
                 rfl
                refine pure_ (i := 11) (N := some 88) (v := ?_) (a' := ?_) #[Y,Y,Y,Y,Y,Y,Y,Y,Y,Y,Y,Y,Z,Z,Z,Z,Z,Z,Z,Z,Z,Z,Z,Z,Z] rfl rfl (any_of HT_.out (by kernel_rfl)) (fun _ _ _ h => h) (Or.inl ⟨by rfl, ?_⟩) ?_ ?_
                rotate_left
                ·intro w'
                 go_simp
                 with_reducible rfl
                rotate_left
                ·simp only [Act.put, zl1, zl2, zl3, i64_w, i32_w]
                 rfl
                refine pure_ (i := 12) (N := some 89) (v := ?_) (a' := ?_) #[Y,Y,Y,Y,Y,Y,Y,Y,Y,Y,Y,Y,Y,Z,Z,Z,Z,Z,Z,Z,Z,Z,Z,Z,Z] rfl rfl (any_of HT_.out (by kernel_rfl)) (fun _ _ _ h => h) (Or.inl ⟨by rfl, ?_⟩) ?_ ?_
                rotate_left
                ·intro w'
                 go_simp
                 with_reducible rfl
                rotate_left
                ·simp only [Act.put, zl1, zl2, zl3, i64_w, i32_w]
                 rfl
                refine pure_ (i := 13) (N := some 90) (v := ?_) (a' := ?_) #[Y,Y,Y,Y,Y,Y,Y,Y,Y,Y,Y,Y,Y,Y,Z,Z,Z,Z,Z,Z,Z,Z,Z,Z,Z] rfl rfl (any_of HT_.out (by kernel_rfl)) (fun _ _ _ h => h) (Or.inl ⟨by rfl, ?_⟩) ?_ ?_
                rotate_left
                ·intro w'
                 go_simp
                 with_reducible rfl
                rotate_left
                ·simp only [Act.put, zl1, zl2, zl3, i64_w, i32_w]
                 rfl
                refine pure_ (i := 14) (N := some 91) (v := ?_) (a' := ?_) #[Y,Y,Y,Y,Y,Y,Y,Y,Y,Y,Y,Y,Y,Y,Y,Z,Z,Z,Z,Z,Z,Z,Z,Z,Z] rfl rfl (any_of HT_.out (by kernel_rfl)) (fun _ _ _ h => h) (Or.inl ⟨by rfl, ?_⟩) ?_ ?_
                rotate_left
                ·intro w'
                 go_simp
                 with_reducible rfl
                rotate_left
                ·simp only [Act.put, zl1, zl2, zl3, i64_w, i32_w]
                 rfl
                refine pure_ (i := 15) (N := some 92) (v := ?_) (a' := ?_) #[Y,Y,Y,Y,Y,Y,Y,Y,Y,Y,Y,Y,Y,Y,Y,Y,Z,Z,Z,Z,Z,Z,Z,Z,Z] rfl rfl (any_of HT_.out (by kernel_rfl)) (fun _ _ _ h => h) (Or.inl ⟨by rfl, ?_⟩) ?_ ?_
                rotate_left
                ·intro w'
                 go_simp
                 with_reducible rfl
                rotate_left
                ·simp only [Act.put, zl1, zl2, zl3, i64_w, i32_w]
                 rfl
                refine pure_ (i := 17) (N := some 94) (v := ?_) (a' := ?_) #[Y,Y,Y,Y,Y,Y,Y,Y,Y,Y,Y,Y,Y,Y,Y,Y,Z,Y,Z,Z,Z,Z,Z,Z,Z] rfl rfl (any_of HT_.out (by kernel_rfl)) (fun _ _ _ h => h) (Or.inl ⟨by rfl, ?_⟩) ?_ ?_
                rotate_left
                ·intro w'
                 go_simp
                 with_reducible rfl
                rotate_left
                ·simp only [Act.put, zl1, zl2, zl3, i64_w, i32_w]
                 rfl
                refine pure_ (i := 18) (N := some 95) (v := ?_) (a' := ?_) #[Y,Y,Y,Y,Y,Y,Y,Y,Y,Y,Y,Y,Y,Y,Y,Y,Z,Y,Y,Z,Z,Z,Z,Z,Z] rfl rfl (any_of HT_.out (by kernel_rfl)) (fun _ _ _ h => h) (Or.inl ⟨by rfl, ?_⟩) ?_ ?_
                rotate_left
                ·intro w'
                 go_simp
                 with_reducible rfl
                rotate_left
                ·simp only [Act.put, zl1, zl2, zl3, i64_w, i32_w]
                 rfl
                refine pure_ (i := 19) (N := some 96) (v := ?_) (a' := ?_) #[Y,Y,Y,Y,Y,Y,Y,Y,Y,Y,Y,Y,Y,Y,Y,Y,Z,Y,Y,Y,Z,Z,Z,Z,Z] rfl rfl (any_of HT_.out (by kernel_rfl)) (fun _ _ _ h => h) (Or.inl ⟨by rfl, ?_⟩) ?_ ?_
                rotate_left
                ·intro w'
                 go_simp
                 with_reducible rfl
                rotate_left
                ·simp only [Act.put, zl1, zl2, zl3, i64_w, i32_w]
                 rfl
                refine pure_ (i := 20) (N := some 97) (v := ?_) (a' := ?_) #[Y,Y,Y,Y,Y,Y,Y,Y,Y,Y,Y,Y,Y,Y,Y,Y,Z,Y,Y,Y,Y,Z,Z,Z,Z] rfl rfl (any_of HT_.out (by kernel_rfl)) (fun _ _ _ h => h) (Or.inl ⟨by rfl, ?_⟩) ?_ ?_
                rotate_left
                ·intro w'
                 go_simp
                 with_reducible rfl
                rotate_left
                ·simp only [Act.put, zl1, zl2, zl3, i64_w, i32_w]
                 rfl
                refine take_ (i := 16) (N := some 93) (v := ?_) (a' := ?_) #[Y,Y,Y,Y,Y,Y,Y,Y,Y,Y,Y,Y,Y,Y,Y,Y,Y,Y,Y,Y,Y,Z,Z,Z,Z] rfl rfl (take_ofW HT_.out HW_.out (by kernel_rfl)) (fun _ _ _ h => h) (Or.inl ⟨by rfl, ?_⟩) hHeld ?_ ?_
                rotate_left
                ·rintro w' ⟨s0, s1, s2, s3, s4, s5, s6, s7⟩
                 go_simp
                 with_reducible rfl
                rotate_left
                ·simp only [Act.put, zl1, zl2, zl3, i64_w, i32_w]
                 rfl
                refine take_ (i := 21) (N := some 98) (v := ?_) (a' := ?_) #[Y,Y,Y,Y,Y,Y,Y,Y,Y,Y,Y,Y,Y,Y,Y,Y,Y,Y,Y,Y,Y,Y,Z,Z,Z] rfl rfl (take_ofW HT_.out HW_.out (by kernel_rfl)) (fun _ _ _ h => h) (Or.inl ⟨by rfl, ?_⟩) hHeld ?_ ?_
                rotate_left
                ·rintro w' ⟨s0, s1, s2, s3, s4, s5, s6, s7⟩
                 go_simp
                 with_reducible rfl
                rotate_left
                ·simp only [Act.put, zl1, zl2, zl3, i64_w, i32_w]
                 rfl
                refine one_ (i := 22) (N := some 99) #[Y,Y,Y,Y,Y,Y,Y,Y,Y,Y,Y,Y,Y,Y,Y,Y,Y,Y,Y,Y,Y,Y,Y,Z,Z] rfl rfl (one_of HT_.out (by kernel_rfl)) (by decide) (fun K hK => ?_)
                refine goes_ Try.func14 (by kernel_rfl) rfl #[.slice A236_1 ((rd_T46 t215 x7_3).f1).length c236_1, .slice A237_1 ((rd_T46 t219 x7_3).f1).length c237_1] (by rfl) rfl rfl (by (try simp only [List.map_toArray, List.map_cons, List.map_nil]); first | done | rfl | (simp only [List.length_drop, List.length_take]; rfl)) ?_
                with_reducible refine (hallmarkref04_Ints.calls k3 _ _ ((rd_T46 t215 x7_3).f1) _ _ ((rd_T46 t219 x7_3).f1) true _ ?side1 ?side2 ?side3 ?side4 A56.out).mono ?_
                (case side1 => repeat (first | exact HR238_1.out | (with_reducible refine Kd.C_alloc ?_ _) | (with_reducible refine Kd.C_drewN ?_ _) | (with_reducible refine Kd.C_drew ?_)))
                (case side2 => exact HC238_1.out)
                (case side3 => repeat (first | exact HR239_1.out | (with_reducible refine Kd.C_alloc ?_ _) | (with_reducible refine Kd.C_drewN ?_ _) | (with_reducible refine Kd.C_drew ?_)))
                (case side4 => exact HC239_1.out)
                rintro e w' ⟨rfl, ⟨nd, rfl⟩⟩
                refine ⟨_, rfl, ?_⟩
                refine hK.out _ _ ⟨hHeld.1, hHeld.2.1, hHeld.2.2.1, hHeld.2.2.2.1, hHeld.2.2.2.2.1, hHeld.2.2.2.2.2.1, hHeld.2.2.2.2.2.2.1, hHeld.2.2.2.2.2.2.2⟩ (fun hHeld => ?_)
                clear hK K
                refine norm_ (a' := ?_) ?_ ?_
                rotate_left
                ·show Act.put _ (some 99) _ = _
                 simp only [Act.put, zl1, zl2, zl3, i64_w, i32_w]
                 rfl
                refine pure_ (i := 23) (N := some 100) (v := ?_) (a' := ?_) #[Y,Y,Y,Y,Y,Y,Y,Y,Y,Y,Y,Y,Y,Y,Y,Y,Y,Y,Y,Y,Y,Y,Y,Y,Z] rfl rfl (any_of HT_.out (by kernel_rfl)) (fun _ _ _ h => h) (Or.inl ⟨by rfl, ?_⟩) ?_ ?_
                rotate_left
                ·intro w'
                 go_simp
                 with_reducible rfl
                rotate_left
                ·simp only [Act.put, zl1, zl2, zl3, i64_w, i32_w]
                 rfl
                refine pure_ (i := 24) (N := some 101) (v := ?_) (a' := ?_) #[Y,Y,Y,Y,Y,Y,Y,Y,Y,Y,Y,Y,Y,Y,Y,Y,Y,Y,Y,Y,Y,Y,Y,Y,Y] rfl rfl (any_of HT_.out (by kernel_rfl)) (fun _ _ _ h => h) (Or.inl ⟨by rfl, ?_⟩) ?_ ?_
                rotate_left
                ·intro w'
                 go_simp
                 with_reducible rfl
                rotate_left
                ·simp only [Act.put, zl1, zl2, zl3, i64_w, i32_w]
                 rfl
                refine done_ (done_of HT_.out (by kernel_rfl)) ?_
                try go_wp2
                go_roundg k3
                case measure => have := HK1.out; have := HJ16.out; have := HK3.out; omega
                case rel => exact ⟨(wrap64 (x7_3 + 1)), (by first | rfl | (simp; done) | (simp [*]; done)), H', ⟨by have := HK1.out; have := HJ16.out; have := HK3.out; omega⟩, ⟨by (with_reducible repeat (first | apply Kd.N_alloc | apply Kd.N_drewN | apply Kd.N_drew)); exact HO_3.out⟩, ⟨by (with_reducible repeat (first | apply Kd.N_alloc | apply Kd.N_drewN | apply Kd.N_drew)); exact HO_5.out⟩, ⟨by (with_reducible repeat (first | apply Kd.N_alloc | apply Kd.N_drewN | apply Kd.N_drew)); exact HO_6.out⟩, ⟨by (with_reducible repeat (first | apply Kd.V_alloc | apply Kd.V_drewN | apply Kd.V_drew)); exact HO_206001.out⟩, ⟨by (with_reducible repeat (first | refine blk_drewN ?_ _ | refine blk_drew ?_ | refine blk_alloc ?_ _)); exact BK205.out⟩, ⟨by repeat (first | (with_reducible exact HR214_0.out) | (with_reducible refine Kd.C_alloc ?_ _) | (with_reducible refine Kd.C_drewN ?_ _) | (with_reducible refine Kd.C_drew ?_) | exact HR214_0.out)⟩, ⟨by repeat (first | (with_reducible exact HR214_1.out) | (with_reducible refine Kd.C_alloc ?_ _) | (with_reducible refine Kd.C_drewN ?_ _) | (with_reducible refine Kd.C_drew ?_) | exact HR214_1.out)⟩, ⟨by repeat (first | (with_reducible exact HR214_6.out) | (with_reducible refine Kd.C_alloc ?_ _) | (with_reducible refine Kd.C_drewN ?_ _) | (with_reducible refine Kd.C_drew ?_) | exact HR214_6.out)⟩, ⟨by repeat (first | (with_reducible exact HR214_7.out) | (with_reducible refine Kd.C_alloc ?_ _) | (with_reducible refine Kd.C_drewN ?_ _) | (with_reducible refine Kd.C_drew ?_) | exact HR214_7.out)⟩, ⟨by repeat (first | (with_reducible exact HR218_0.out) | (with_reducible refine Kd.C_alloc ?_ _) | (with_reducible refine Kd.C_drewN ?_ _) | (with_reducible refine Kd.C_drew ?_) | exact HR218_0.out)⟩, ⟨by repeat (first | (with_reducible exact HR218_1.out) | (with_reducible refine Kd.C_alloc ?_ _) | (with_reducible refine Kd.C_drewN ?_ _) | (with_reducible refine Kd.C_drew ?_) | exact HR218_1.out)⟩, ⟨by repeat (first | (with_reducible exact HR218_6.out) | (with_reducible refine Kd.C_alloc ?_ _) | (with_reducible refine Kd.C_drewN ?_ _) | (with_reducible refine Kd.C_drew ?_) | exact HR218_6.out)⟩, ⟨by repeat (first | (with_reducible exact HR218_7.out) | (with_reducible refine Kd.C_alloc ?_ _) | (with_reducible refine Kd.C_drewN ?_ _) | (with_reducible refine Kd.C_drew ?_) | exact HR218_7.out)⟩, ⟨by repeat (first | (with_reducible first | exact HB.out | apply below_alloc | apply pw_below_drewN | apply below_drew1 | refine below_set ?_ GE205.out) | exact HB.out)⟩⟩
               ·replace c57 := Bool.eq_false_iff.mpr c57
                subst c57
                have H1 : (some false) = some r := by rw [if_neg (show ¬ (false = true) by decide)] at H; exact H
                clear H
                have H := H1
                clear H1
                obtain rfl := Option.some.inj H
                obtain ⟨Ao61, co61, eo61⟩ := Kd.N_slice HO_5.out
                subst eo61
                try go_wp2
                replace HO_3 := zm (Kd.N_drew HO_3.out)
                replace HO_5 := zm (Kd.N_drew HO_5.out)
                replace HO_6 := zm (Kd.N_drew HO_6.out)
                replace HO_206001 := zm (Kd.V_drew HO_206001.out)
                replace BK205 := zm (blk_drew BK205.out)
                replace HB := zm (below_drew1 HB.out)
                have p236 : 0 ≤ (x7_3 : Int) := of_decide_eq_true (by first | (with_reducible assumption) | assumption)
                have q236 : x7_3 < (t215.length : Int) := of_decide_eq_true (by first | (with_reducible assumption) | assumption)
                obtain ⟨ad236, A236_1, c236_1, e236, hx236_0, hx236_1, hl236_1, hi236_1⟩ := at_T46 (Kd.N_reads' HO_5.out).2.2 x7_3 p236 q236
                cases e236
                obtain ⟨ce236, hce236, hMe236, hcc236⟩ := Kd.N_get HO_5.out z46 x7_3 p236 (by first | exact q236 | exact of_decide_eq_true (by first | (with_reducible assumption) | assumption) | (have e_ := (Kd.N_reads' HO_5.out).1; omega))
                obtain ⟨ua236_1, uc236_1, rfl, ul236_1, ge236_1⟩ := k46_openF hMe236
                have hv236_1 := hcc236 1 _ rfl
                rw [add_field _ _ 1 (by omega)] at hv236_1
                replace hv236_1 := Option.some.inj (hv236_1.symm.trans hx236_1)
                injection hv236_1 with hva_ hvn_ hvc_
                rw [hva_] at ge236_1
                rw [hvc_] at ul236_1
                have HL236_1 := zm (show Kd.V (Kd.int .i64) 3 _ w.heap.size _ _ ((rd_T46 t215 x7_3).f1) from Kd.V_mk ul236_1 ge236_1)
                clear hva_ hvn_ hvc_ ge236_1 ul236_1
                clear hcc236 hce236
                have HR236_1 := zm hi236_1
                have HC236_1 := zm hl236_1
                clear hi236_1 hl236_1
                replace p236 := eq_true p236
                replace q236 := eq_true q236
                obtain ⟨Ao63, co63, eo63⟩ := Kd.N_slice HO_6.out
                (first | subst eo63 | (injection eo63 with f1_ f2_ f3_; have f4_ := f1_.symm; have f5_ := f3_.symm; clear f1_ f2_ f3_; subst f4_; subst f5_))
                have p237 : 0 ≤ (x7_3 : Int) := of_decide_eq_true (by first | (with_reducible assumption) | assumption)
                have q237 : x7_3 < (t219.length : Int) := of_decide_eq_true (by first | (with_reducible assumption) | assumption)
                obtain ⟨ad237, A237_1, c237_1, e237, hx237_0, hx237_1, hl237_1, hi237_1⟩ := at_T46 (Kd.N_reads' HO_6.out).2.2 x7_3 p237 q237
                cases e237
                obtain ⟨ce237, hce237, hMe237, hcc237⟩ := Kd.N_get HO_6.out z46 x7_3 p237 (by first | exact q237 | exact of_decide_eq_true (by first | (with_reducible assumption) | assumption) | (have e_ := (Kd.N_reads' HO_6.out).1; omega))
                obtain ⟨ua237_1, uc237_1, rfl, ul237_1, ge237_1⟩ := k46_openF hMe237
                have hv237_1 := hcc237 1 _ rfl
                rw [add_field _ _ 1 (by omega)] at hv237_1
                replace hv237_1 := Option.some.inj (hv237_1.symm.trans hx237_1)
                injection hv237_1 with hva_ hvn_ hvc_
                rw [hva_] at ge237_1
                rw [hvc_] at ul237_1
                have HL237_1 := zm (show Kd.V (Kd.int .i64) 3 _ w.heap.size _ _ ((rd_T46 t219 x7_3).f1) from Kd.V_mk ul237_1 ge237_1)
                clear hva_ hvn_ hvc_ ge237_1 ul237_1
                clear hcc237 hce237
                have HR237_1 := zm hi237_1
                have HC237_1 := zm hl237_1
                clear hi237_1 hl237_1
                replace p237 := eq_true p237
                replace q237 := eq_true q237
                have p238 : 0 ≤ (x7_3 : Int) := of_decide_eq_true (by first | (with_reducible assumption) | assumption)
                have q238 : x7_3 < (t215.length : Int) := of_decide_eq_true (by first | (with_reducible assumption) | assumption)
                obtain ⟨ad238, A238_1, c238_1, e238, hx238_0, hx238_1, hl238_1, hi238_1⟩ := at_T46 (Kd.N_reads' HO_5.out).2.2 x7_3 p238 q238
                obtain rfl : ad236 = ad238 := (by injection e238)
                obtain ⟨ce238, hce238, hMe238, hcc238⟩ := Kd.N_get HO_5.out z46 x7_3 p238 (by first | exact q238 | exact of_decide_eq_true (by first | (with_reducible assumption) | assumption) | (have e_ := (Kd.N_reads' HO_5.out).1; omega))
                obtain ⟨ua238_1, uc238_1, rfl, ul238_1, ge238_1⟩ := k46_openF hMe238
                have hv238_1 := hcc238 1 _ rfl
                rw [add_field _ _ 1 (by omega)] at hv238_1
                replace hv238_1 := Option.some.inj (hv238_1.symm.trans hx238_1)
                injection hv238_1 with hva_ hvn_ hvc_
                rw [hva_] at ge238_1
                rw [hvc_] at ul238_1
                have HL238_1 := zm (show Kd.V (Kd.int .i64) 3 _ w.heap.size _ _ ((rd_T46 t215 x7_3).f1) from Kd.V_mk ul238_1 ge238_1)
                clear hva_ hvn_ hvc_ ge238_1 ul238_1
                clear hcc238 hce238
                have HR238_1 := zm hi238_1
                have HC238_1 := zm hl238_1
                clear hi238_1 hl238_1
                replace p238 := eq_true p238
                replace q238 := eq_true q238
                have ea_ := Option.some.inj (hx236_1.symm.trans hx238_1)
                injection ea_ with ea_ en_ ec_
                subst ea_
                subst ec_
                clear en_
                have p239 : 0 ≤ (x7_3 : Int) := of_decide_eq_true (by first | (with_reducible assumption) | assumption)
                have q239 : x7_3 < (t219.length : Int) := of_decide_eq_true (by first | (with_reducible assumption) | assumption)
                obtain ⟨ad239, A239_1, c239_1, e239, hx239_0, hx239_1, hl239_1, hi239_1⟩ := at_T46 (Kd.N_reads' HO_6.out).2.2 x7_3 p239 q239
                obtain rfl : ad237 = ad239 := (by injection e239)
                obtain ⟨ce239, hce239, hMe239, hcc239⟩ := Kd.N_get HO_6.out z46 x7_3 p239 (by first | exact q239 | exact of_decide_eq_true (by first | (with_reducible assumption) | assumption) | (have e_ := (Kd.N_reads' HO_6.out).1; omega))
                obtain ⟨ua239_1, uc239_1, rfl, ul239_1, ge239_1⟩ := k46_openF hMe239
                have hv239_1 := hcc239 1 _ rfl
                rw [add_field _ _ 1 (by omega)] at hv239_1
                replace hv239_1 := Option.some.inj (hv239_1.symm.trans hx239_1)
                injection hv239_1 with hva_ hvn_ hvc_
                rw [hva_] at ge239_1
                rw [hvc_] at ul239_1
                have HL239_1 := zm (show Kd.V (Kd.int .i64) 3 _ w.heap.size _ _ ((rd_T46 t219 x7_3).f1) from Kd.V_mk ul239_1 ge239_1)
                clear hva_ hvn_ hvc_ ge239_1 ul239_1
                clear hcc239 hce239
                have HR239_1 := zm hi239_1
                have HC239_1 := zm hl239_1
                clear hi239_1 hl239_1
                replace p239 := eq_true p239
                replace q239 := eq_true q239
                have ea_ := Option.some.inj (hx237_1.symm.trans hx239_1)
                injection ea_ with ea_ en_ ec_
                subst ea_
                subst ec_
                clear en_
                refine start_ (n := 25) (S := fun w' => w'.cell? (ad236.add ((x7_3).toNat * 2)) = some (.int .i64 ((rd_T46 t215 x7_3).f0)) ∧ w'.cell? ⟨(ad236.add ((x7_3).toNat * 2)).block, (ad236.add ((x7_3).toNat * 2)).off + 1, none⟩ = some (.slice A236_1 ((rd_T46 t215 x7_3).f1).length c236_1) ∧ w'.cell? (ad237.add ((x7_3).toNat * 2)) = some (.int .i64 ((rd_T46 t219 x7_3).f0)) ∧ w'.cell? ⟨(ad237.add ((x7_3).toNat * 2)).block, (ad237.add ((x7_3).toNat * 2)).off + 1, none⟩ = some (.slice A237_1 ((rd_T46 t219 x7_3).f1).length c237_1) ∧ w'.cell? (ad236.add ((x7_3).toNat * 2)) = some (.int .i64 ((rd_T46 t215 x7_3).f0)) ∧ w'.cell? ⟨(ad236.add ((x7_3).toNat * 2)).block, (ad236.add ((x7_3).toNat * 2)).off + 1, none⟩ = some (.slice A236_1 ((rd_T46 t215 x7_3).f1).length c236_1) ∧ w'.cell? (ad237.add ((x7_3).toNat * 2)) = some (.int .i64 ((rd_T46 t219 x7_3).f0)) ∧ w'.cell? ⟨(ad237.add ((x7_3).toNat * 2)).block, (ad237.add ((x7_3).toNat * 2)).off + 1, none⟩ = some (.slice A237_1 ((rd_T46 t219 x7_3).f1).length c237_1)) (ds := []) #[Z,Z,Z,Z,Z,Z,Z,Z,Z,Z,Z,Z,Z,Z,Z,Z,Z,Z,Z,Z,Z,Z,Z,Z,Z] (by kernel_rfl) rfl rfl ⟨hx236_0, hx236_1, hx237_0, hx237_1, hx238_0, hx238_1, hx239_0, hx239_1⟩ (fun hHeld => ?_); refine with_tabW hallmarklaw07_CfgNext.tab14 hallmarklaw07_CfgNext.bits14 (fun HT_ HW_ => ?_)
                generalize wr.drew = w62 at HO_3 HO_5 HO_6 HO_206001 BK205 HR214_0 HR214_1 HR214_6 HR214_7 HR218_0 HR218_1 HR218_6 HR218_7 HB HL236_1 HL237_1 HL238_1 HL239_1 HR236_1 HR237_1 HR238_1 HR239_1 hx236_0 hx236_1 hx237_0 hx237_1 hx238_0 hx238_1 hx239_0 hx239_1 hHeld ⊢
                refine pure_ (i := 0) (N := some 77) (v := ?_) (a' := ?_) #[Y,Z,Z,Z,Z,Z,Z,Z,Z,Z,Z,Z,Z,Z,Z,Z,Z,Z,Z,Z,Z,Z,Z,Z,Z] rfl rfl (any_of HT_.out (by kernel_rfl)) (fun _ _ _ h => h) (Or.inl ⟨by rfl, ?_⟩) ?_ ?_
                rotate_left
                ·intro w'
                 go_simp
                 with_reducible rfl
                rotate_left
                ·simp only [Act.put, zl1, zl2, zl3, i64_w, i32_w]
                 rfl
                refine pure_ (i := 1) (N := some 78) (v := ?_) (a' := ?_) #[Y,Y,Z,Z,Z,Z,Z,Z,Z,Z,Z,Z,Z,Z,Z,Z,Z,Z,Z,Z,Z,Z,Z,Z,Z] rfl rfl (any_of HT_.out (by kernel_rfl)) (fun _ _ _ h => h) (Or.inl ⟨by rfl, ?_⟩) ?_ ?_
                rotate_left
                ·intro w'
                 go_simp
                 with_reducible rfl
                rotate_left
                ·simp only [Act.put, zl1, zl2, zl3, i64_w, i32_w]
                 rfl
                refine pure_ (i := 2) (N := some 79) (v := ?_) (a' := ?_) #[Y,Y,Y,Z,Z,Z,Z,Z,Z,Z,Z,Z,Z,Z,Z,Z,Z,Z,Z,Z,Z,Z,Z,Z,Z] rfl rfl (any_of HT_.out (by kernel_rfl)) (fun _ _ _ h => h) (Or.inl ⟨by rfl, ?_⟩) ?_ ?_
                rotate_left
                ·intro w'
                 go_simp
                 with_reducible rfl
                rotate_left
                ·simp only [Act.put, zl1, zl2, zl3, i64_w, i32_w]
                 rfl
                refine pure_ (i := 3) (N := some 80) (v := ?_) (a' := ?_) #[Y,Y,Y,Y,Z,Z,Z,Z,Z,Z,Z,Z,Z,Z,Z,Z,Z,Z,Z,Z,Z,Z,Z,Z,Z] rfl rfl (any_of HT_.out (by kernel_rfl)) (fun _ _ _ h => h) (Or.inl ⟨by rfl, ?_⟩) ?_ ?_
                rotate_left
                ·intro w'
                 go_simp
                 with_reducible rfl
                rotate_left
                ·simp only [Act.put, zl1, zl2, zl3, i64_w, i32_w]
                 rfl
                refine pure_ (i := 5) (N := some 82) (v := ?_) (a' := ?_) #[Y,Y,Y,Y,Z,Y,Z,Z,Z,Z,Z,Z,Z,Z,Z,Z,Z,Z,Z,Z,Z,Z,Z,Z,Z] rfl rfl (any_of HT_.out (by kernel_rfl)) (fun _ _ _ h => h) (Or.inl ⟨by rfl, ?_⟩) ?_ ?_
                rotate_left
                ·intro w'
                 go_simp
                 with_reducible rfl
                rotate_left
                ·simp only [Act.put, zl1, zl2, zl3, i64_w, i32_w]
                 rfl
                refine pure_ (i := 6) (N := some 83) (v := ?_) (a' := ?_) #[Y,Y,Y,Y,Z,Y,Y,Z,Z,Z,Z,Z,Z,Z,Z,Z,Z,Z,Z,Z,Z,Z,Z,Z,Z] rfl rfl (any_of HT_.out (by kernel_rfl)) (fun _ _ _ h => h) (Or.inl ⟨by rfl, ?_⟩) ?_ ?_
                rotate_left
                ·intro w'
                 go_simp
                 with_reducible rfl
                rotate_left
                ·simp only [Act.put, zl1, zl2, zl3, i64_w, i32_w]
                 rfl
                refine pure_ (i := 7) (N := some 84) (v := ?_) (a' := ?_) #[Y,Y,Y,Y,Z,Y,Y,Y,Z,Z,Z,Z,Z,Z,Z,Z,Z,Z,Z,Z,Z,Z,Z,Z,Z] rfl rfl (any_of HT_.out (by kernel_rfl)) (fun _ _ _ h => h) (Or.inl ⟨by rfl, ?_⟩) ?_ ?_
                rotate_left
                ·intro w'
                 go_simp
                 with_reducible rfl
                rotate_left
                ·simp only [Act.put, zl1, zl2, zl3, i64_w, i32_w]
                 rfl
                refine pure_ (i := 8) (N := some 85) (v := ?_) (a' := ?_) #[Y,Y,Y,Y,Z,Y,Y,Y,Y,Z,Z,Z,Z,Z,Z,Z,Z,Z,Z,Z,Z,Z,Z,Z,Z] rfl rfl (any_of HT_.out (by kernel_rfl)) (fun _ _ _ h => h) (Or.inl ⟨by rfl, ?_⟩) ?_ ?_
                rotate_left
                ·intro w'
                 go_simp
                 with_reducible rfl
                rotate_left
                ·simp only [Act.put, zl1, zl2, zl3, i64_w, i32_w]
                 rfl
                refine take_ (i := 4) (N := some 81) (v := ?_) (a' := ?_) #[Y,Y,Y,Y,Y,Y,Y,Y,Y,Z,Z,Z,Z,Z,Z,Z,Z,Z,Z,Z,Z,Z,Z,Z,Z] rfl rfl (take_ofW HT_.out HW_.out (by kernel_rfl)) (fun _ _ _ h => h) (Or.inl ⟨by rfl, ?_⟩) hHeld ?_ ?_
                rotate_left
                ·rintro w' ⟨s0, s1, s2, s3, s4, s5, s6, s7⟩
                 go_simp
                 with_reducible rfl
                rotate_left
                ·simp only [Act.put, zl1, zl2, zl3, i64_w, i32_w]
                 rfl
                refine take_ (i := 9) (N := some 86) (v := ?_) (a' := ?_) #[Y,Y,Y,Y,Y,Y,Y,Y,Y,Y,Z,Z,Z,Z,Z,Z,Z,Z,Z,Z,Z,Z,Z,Z,Z] rfl rfl (take_ofW HT_.out HW_.out (by kernel_rfl)) (fun _ _ _ h => h) (Or.inl ⟨by rfl, ?_⟩) hHeld ?_ ?_
                rotate_left
                ·rintro w' ⟨s0, s1, s2, s3, s4, s5, s6, s7⟩
                 go_simp
                 with_reducible rfl
                rotate_left
                ·simp only [Act.put, zl1, zl2, zl3, i64_w, i32_w]
                 rfl
                refine pure_ (i := 10) (N := some 87) (v := ?_) (a' := ?_) #[Y,Y,Y,Y,Y,Y,Y,Y,Y,Y,Y,Z,Z,Z,Z,Z,Z,Z,Z,Z,Z,Z,Z,Z,Z] rfl rfl (any_of HT_.out (by kernel_rfl)) (fun _ _ _ h => h) (Or.inl ⟨by rfl, ?_⟩) ?_ ?_
                rotate_left
                ·intro w'
                 go_simp
                 with_reducible rfl
                rotate_left
                ·simp only [Act.put, zl1, zl2, zl3, i64_w, i32_w]
                 rfl
                refine pure_ (i := 11) (N := some 88) (v := ?_) (a' := ?_) #[Y,Y,Y,Y,Y,Y,Y,Y,Y,Y,Y,Y,Z,Z,Z,Z,Z,Z,Z,Z,Z,Z,Z,Z,Z] rfl rfl (any_of HT_.out (by kernel_rfl)) (fun _ _ _ h => h) (Or.inl ⟨by rfl, ?_⟩) ?_ ?_
                rotate_left
                ·intro w'
                 go_simp
                 with_reducible rfl
                rotate_left
                ·simp only [Act.put, zl1, zl2, zl3, i64_w, i32_w]
                 rfl
                refine pure_ (i := 12) (N := some 89) (v := ?_) (a' := ?_) #[Y,Y,Y,Y,Y,Y,Y,Y,Y,Y,Y,Y,Y,Z,Z,Z,Z,Z,Z,Z,Z,Z,Z,Z,Z] rfl rfl (any_of HT_.out (by kernel_rfl)) (fun _ _ _ h => h) (Or.inl ⟨by rfl, ?_⟩) ?_ ?_
                rotate_left
                ·intro w'
                 go_simp
                 with_reducible rfl
                rotate_left
                ·simp only [Act.put, zl1, zl2, zl3, i64_w, i32_w]
                 rfl
                refine pure_ (i := 13) (N := some 90) (v := ?_) (a' := ?_) #[Y,Y,Y,Y,Y,Y,Y,Y,Y,Y,Y,Y,Y,Y,Z,Z,Z,Z,Z,Z,Z,Z,Z,Z,Z] rfl rfl (any_of HT_.out (by kernel_rfl)) (fun _ _ _ h => h) (Or.inl ⟨by rfl, ?_⟩) ?_ ?_
                rotate_left
                ·intro w'
                 go_simp
                 with_reducible rfl
                rotate_left
                ·simp only [Act.put, zl1, zl2, zl3, i64_w, i32_w]
                 rfl
                refine pure_ (i := 14) (N := some 91) (v := ?_) (a' := ?_) #[Y,Y,Y,Y,Y,Y,Y,Y,Y,Y,Y,Y,Y,Y,Y,Z,Z,Z,Z,Z,Z,Z,Z,Z,Z] rfl rfl (any_of HT_.out (by kernel_rfl)) (fun _ _ _ h => h) (Or.inl ⟨by rfl, ?_⟩) ?_ ?_
                rotate_left
                ·intro w'
                 go_simp
                 with_reducible rfl
                rotate_left
                ·simp only [Act.put, zl1, zl2, zl3, i64_w, i32_w]
                 rfl
                refine pure_ (i := 15) (N := some 92) (v := ?_) (a' := ?_) #[Y,Y,Y,Y,Y,Y,Y,Y,Y,Y,Y,Y,Y,Y,Y,Y,Z,Z,Z,Z,Z,Z,Z,Z,Z] rfl rfl (any_of HT_.out (by kernel_rfl)) (fun _ _ _ h => h) (Or.inl ⟨by rfl, ?_⟩) ?_ ?_
                rotate_left
                ·intro w'
                 go_simp
                 with_reducible rfl
                rotate_left
                ·simp only [Act.put, zl1, zl2, zl3, i64_w, i32_w]
                 rfl
                refine pure_ (i := 17) (N := some 94) (v := ?_) (a' := ?_) #[Y,Y,Y,Y,Y,Y,Y,Y,Y,Y,Y,Y,Y,Y,Y,Y,Z,Y,Z,Z,Z,Z,Z,Z,Z] rfl rfl (any_of HT_.out (by kernel_rfl)) (fun _ _ _ h => h) (Or.inl ⟨by rfl, ?_⟩) ?_ ?_
                rotate_left
                ·intro w'
                 go_simp
                 with_reducible rfl
                rotate_left
                ·simp only [Act.put, zl1, zl2, zl3, i64_w, i32_w]
                 rfl
                refine pure_ (i := 18) (N := some 95) (v := ?_) (a' := ?_) #[Y,Y,Y,Y,Y,Y,Y,Y,Y,Y,Y,Y,Y,Y,Y,Y,Z,Y,Y,Z,Z,Z,Z,Z,Z] rfl rfl (any_of HT_.out (by kernel_rfl)) (fun _ _ _ h => h) (Or.inl ⟨by rfl, ?_⟩) ?_ ?_
                rotate_left
                ·intro w'
                 go_simp
                 with_reducible rfl
                rotate_left
                ·simp only [Act.put, zl1, zl2, zl3, i64_w, i32_w]
                 rfl
                refine pure_ (i := 19) (N := some 96) (v := ?_) (a' := ?_) #[Y,Y,Y,Y,Y,Y,Y,Y,Y,Y,Y,Y,Y,Y,Y,Y,Z,Y,Y,Y,Z,Z,Z,Z,Z] rfl rfl (any_of HT_.out (by kernel_rfl)) (fun _ _ _ h => h) (Or.inl ⟨by rfl, ?_⟩) ?_ ?_
                rotate_left
                ·intro w'
                 go_simp
                 with_reducible rfl
                rotate_left
                ·simp only [Act.put, zl1, zl2, zl3, i64_w, i32_w]
                 rfl
                refine pure_ (i := 20) (N := some 97) (v := ?_) (a' := ?_) #[Y,Y,Y,Y,Y,Y,Y,Y,Y,Y,Y,Y,Y,Y,Y,Y,Z,Y,Y,Y,Y,Z,Z,Z,Z] rfl rfl (any_of HT_.out (by kernel_rfl)) (fun _ _ _ h => h) (Or.inl ⟨by rfl, ?_⟩) ?_ ?_
                rotate_left
                ·intro w'
                 go_simp
                 with_reducible rfl
                rotate_left
                ·simp only [Act.put, zl1, zl2, zl3, i64_w, i32_w]
                 rfl
                refine take_ (i := 16) (N := some 93) (v := ?_) (a' := ?_) #[Y,Y,Y,Y,Y,Y,Y,Y,Y,Y,Y,Y,Y,Y,Y,Y,Y,Y,Y,Y,Y,Z,Z,Z,Z] rfl rfl (take_ofW HT_.out HW_.out (by kernel_rfl)) (fun _ _ _ h => h) (Or.inl ⟨by rfl, ?_⟩) hHeld ?_ ?_
                rotate_left
                ·rintro w' ⟨s0, s1, s2, s3, s4, s5, s6, s7⟩
                 go_simp
                 with_reducible rfl
                rotate_left
                ·simp only [Act.put, zl1, zl2, zl3, i64_w, i32_w]
                 rfl
                refine take_ (i := 21) (N := some 98) (v := ?_) (a' := ?_) #[Y,Y,Y,Y,Y,Y,Y,Y,Y,Y,Y,Y,Y,Y,Y,Y,Y,Y,Y,Y,Y,Y,Z,Z,Z] rfl rfl (take_ofW HT_.out HW_.out (by kernel_rfl)) (fun _ _ _ h => h) (Or.inl ⟨by rfl, ?_⟩) hHeld ?_ ?_
                rotate_left
                ·rintro w' ⟨s0, s1, s2, s3, s4, s5, s6, s7⟩
                 go_simp
                 with_reducible rfl
                rotate_left
                ·simp only [Act.put, zl1, zl2, zl3, i64_w, i32_w]
                 rfl
                refine one_ (i := 22) (N := some 99) #[Y,Y,Y,Y,Y,Y,Y,Y,Y,Y,Y,Y,Y,Y,Y,Y,Y,Y,Y,Y,Y,Y,Y,Z,Z] rfl rfl (one_of HT_.out (by kernel_rfl)) (by decide) (fun K hK => ?_)
                refine goes_ Try.func14 (by kernel_rfl) rfl #[.slice A236_1 ((rd_T46 t215 x7_3).f1).length c236_1, .slice A237_1 ((rd_T46 t219 x7_3).f1).length c237_1] (by rfl) rfl rfl (by (try simp only [List.map_toArray, List.map_cons, List.map_nil]); first | done | rfl | (simp only [List.length_drop, List.length_take]; rfl)) ?_
                with_reducible refine (hallmarkref04_Ints.calls k3 _ _ ((rd_T46 t215 x7_3).f1) _ _ ((rd_T46 t219 x7_3).f1) false _ ?side1 ?side2 ?side3 ?side4 A56.out).mono ?_
                (case side1 => repeat (first | exact HR238_1.out | (with_reducible refine Kd.C_alloc ?_ _) | (with_reducible refine Kd.C_drewN ?_ _) | (with_reducible refine Kd.C_drew ?_)))
                (case side2 => exact HC238_1.out)
                (case side3 => repeat (first | exact HR239_1.out | (with_reducible refine Kd.C_alloc ?_ _) | (with_reducible refine Kd.C_drewN ?_ _) | (with_reducible refine Kd.C_drew ?_)))
                (case side4 => exact HC239_1.out)
                rintro e w' ⟨rfl, ⟨nd, rfl⟩⟩
                refine ⟨_, rfl, ?_⟩
                refine hK.out _ _ ⟨hHeld.1, hHeld.2.1, hHeld.2.2.1, hHeld.2.2.2.1, hHeld.2.2.2.2.1, hHeld.2.2.2.2.2.1, hHeld.2.2.2.2.2.2.1, hHeld.2.2.2.2.2.2.2⟩ (fun hHeld => ?_)
                clear hK K
                refine norm_ (a' := ?_) ?_ ?_
                rotate_left
                ·show Act.put _ (some 99) _ = _
                 simp only [Act.put, zl1, zl2, zl3, i64_w, i32_w]
                 rfl
                refine pure_ (i := 23) (N := some 100) (v := ?_) (a' := ?_) #[Y,Y,Y,Y,Y,Y,Y,Y,Y,Y,Y,Y,Y,Y,Y,Y,Y,Y,Y,Y,Y,Y,Y,Y,Z] rfl rfl (any_of HT_.out (by kernel_rfl)) (fun _ _ _ h => h) (Or.inl ⟨by rfl, ?_⟩) ?_ ?_
                rotate_left
                ·intro w'
                 go_simp
                 with_reducible rfl
                rotate_left
                ·simp only [Act.put, zl1, zl2, zl3, i64_w, i32_w]
                 rfl
                refine pure_ (i := 24) (N := some 101) (v := ?_) (a' := ?_) #[Y,Y,Y,Y,Y,Y,Y,Y,Y,Y,Y,Y,Y,Y,Y,Y,Y,Y,Y,Y,Y,Y,Y,Y,Y] rfl rfl (any_of HT_.out (by kernel_rfl)) (fun _ _ _ h => h) (Or.inl ⟨by rfl, ?_⟩) ?_ ?_
                rotate_left
                ·intro w'
                 go_simp
                 with_reducible rfl
                rotate_left
                ·simp only [Act.put, zl1, zl2, zl3, i64_w, i32_w]
                 rfl
                refine done_ (done_of HT_.out (by kernel_rfl)) ?_
                try go_wp2
                go_ret
                exact ⟨by first | rfl | (simp [errW_none, errW_some] <;> rfl) | (simp [*, errW_none, errW_some] <;> rfl), by repeat (first | (with_reducible first | exact HB.out | apply below_alloc | apply pw_below_drewN | apply below_drew1 | refine below_set ?_ GE205.out) | exact HB.out)⟩
              ·rw [if_neg c55] at H
               have c55b0 : (((rd_T46 t215 x7_3).f0) == ((rd_T46 t219 x7_3).f0)) = false := beq_eq_false_iff_ne.mpr c55
               have c55b1 : (((rd_T46 t215 x7_3).f0) != ((rd_T46 t219 x7_3).f0)) = true := bne_iff_ne.mpr c55
               obtain rfl := Option.some.inj H
               obtain ⟨Ao64, co64, eo64⟩ := Kd.N_slice HO_5.out
               subst eo64
               try go_wp2
               replace HO_3 := zm (Kd.N_drew HO_3.out)
               replace HO_5 := zm (Kd.N_drew HO_5.out)
               replace HO_6 := zm (Kd.N_drew HO_6.out)
               replace HO_206001 := zm (Kd.V_drew HO_206001.out)
               replace BK205 := zm (blk_drew BK205.out)
               replace HB := zm (below_drew1 HB.out)
               have p236 : 0 ≤ (x7_3 : Int) := of_decide_eq_true (by first | (with_reducible assumption) | assumption)
               have q236 : x7_3 < (t215.length : Int) := of_decide_eq_true (by first | (with_reducible assumption) | assumption)
               obtain ⟨ad236, A236_1, c236_1, e236, hx236_0, hx236_1, hl236_1, hi236_1⟩ := at_T46 (Kd.N_reads' HO_5.out).2.2 x7_3 p236 q236
               cases e236
               obtain ⟨ce236, hce236, hMe236, hcc236⟩ := Kd.N_get HO_5.out z46 x7_3 p236 (by first | exact q236 | exact of_decide_eq_true (by first | (with_reducible assumption) | assumption) | (have e_ := (Kd.N_reads' HO_5.out).1; omega))
               obtain ⟨ua236_1, uc236_1, rfl, ul236_1, ge236_1⟩ := k46_openF hMe236
               have hv236_1 := hcc236 1 _ rfl
               rw [add_field _ _ 1 (by omega)] at hv236_1
               replace hv236_1 := Option.some.inj (hv236_1.symm.trans hx236_1)
               injection hv236_1 with hva_ hvn_ hvc_
               rw [hva_] at ge236_1
               rw [hvc_] at ul236_1
               have HL236_1 := zm (show Kd.V (Kd.int .i64) 3 _ w.heap.size _ _ ((rd_T46 t215 x7_3).f1) from Kd.V_mk ul236_1 ge236_1)
               clear hva_ hvn_ hvc_ ge236_1 ul236_1
               clear hcc236 hce236
               have HR236_1 := zm hi236_1
               have HC236_1 := zm hl236_1
               clear hi236_1 hl236_1
               replace p236 := eq_true p236
               replace q236 := eq_true q236
               obtain ⟨Ao66, co66, eo66⟩ := Kd.N_slice HO_6.out
               (first | subst eo66 | (injection eo66 with f1_ f2_ f3_; have f4_ := f1_.symm; have f5_ := f3_.symm; clear f1_ f2_ f3_; subst f4_; subst f5_))
               have p237 : 0 ≤ (x7_3 : Int) := of_decide_eq_true (by first | (with_reducible assumption) | assumption)
               have q237 : x7_3 < (t219.length : Int) := of_decide_eq_true (by first | (with_reducible assumption) | assumption)
               obtain ⟨ad237, A237_1, c237_1, e237, hx237_0, hx237_1, hl237_1, hi237_1⟩ := at_T46 (Kd.N_reads' HO_6.out).2.2 x7_3 p237 q237
               cases e237
               obtain ⟨ce237, hce237, hMe237, hcc237⟩ := Kd.N_get HO_6.out z46 x7_3 p237 (by first | exact q237 | exact of_decide_eq_true (by first | (with_reducible assumption) | assumption) | (have e_ := (Kd.N_reads' HO_6.out).1; omega))
               obtain ⟨ua237_1, uc237_1, rfl, ul237_1, ge237_1⟩ := k46_openF hMe237
               have hv237_1 := hcc237 1 _ rfl
               rw [add_field _ _ 1 (by omega)] at hv237_1
               replace hv237_1 := Option.some.inj (hv237_1.symm.trans hx237_1)
               injection hv237_1 with hva_ hvn_ hvc_
               rw [hva_] at ge237_1
               rw [hvc_] at ul237_1
               have HL237_1 := zm (show Kd.V (Kd.int .i64) 3 _ w.heap.size _ _ ((rd_T46 t219 x7_3).f1) from Kd.V_mk ul237_1 ge237_1)
               clear hva_ hvn_ hvc_ ge237_1 ul237_1
               clear hcc237 hce237
               have HR237_1 := zm hi237_1
               have HC237_1 := zm hl237_1
               clear hi237_1 hl237_1
               replace p237 := eq_true p237
               replace q237 := eq_true q237
               refine start_ (n := 25) (S := fun w' => w'.cell? (ad236.add ((x7_3).toNat * 2)) = some (.int .i64 ((rd_T46 t215 x7_3).f0)) ∧ w'.cell? ⟨(ad236.add ((x7_3).toNat * 2)).block, (ad236.add ((x7_3).toNat * 2)).off + 1, none⟩ = some (.slice A236_1 ((rd_T46 t215 x7_3).f1).length c236_1) ∧ w'.cell? (ad237.add ((x7_3).toNat * 2)) = some (.int .i64 ((rd_T46 t219 x7_3).f0)) ∧ w'.cell? ⟨(ad237.add ((x7_3).toNat * 2)).block, (ad237.add ((x7_3).toNat * 2)).off + 1, none⟩ = some (.slice A237_1 ((rd_T46 t219 x7_3).f1).length c237_1)) (ds := []) #[Z,Z,Z,Z,Z,Z,Z,Z,Z,Z,Z,Z,Z,Z,Z,Z,Z,Z,Z,Z,Z,Z,Z,Z,Z] (by kernel_rfl) rfl rfl ⟨hx236_0, hx236_1, hx237_0, hx237_1⟩ (fun hHeld => ?_); refine with_tabW hallmarklaw07_CfgNext.tab14 hallmarklaw07_CfgNext.bits14 (fun HT_ HW_ => ?_)
               generalize wr.drew = w65 at HO_3 HO_5 HO_6 HO_206001 BK205 HR214_0 HR214_1 HR214_6 HR214_7 HR218_0 HR218_1 HR218_6 HR218_7 HB HL236_1 HL237_1 HR236_1 HR237_1 hx236_0 hx236_1 hx237_0 hx237_1 hHeld ⊢
               refine pure_ (i := 0) (N := some 77) (v := ?_) (a' := ?_) #[Y,Z,Z,Z,Z,Z,Z,Z,Z,Z,Z,Z,Z,Z,Z,Z,Z,Z,Z,Z,Z,Z,Z,Z,Z] rfl rfl (any_of HT_.out (by kernel_rfl)) (fun _ _ _ h => h) (Or.inl ⟨by rfl, ?_⟩) ?_ ?_
               rotate_left
               ·intro w'
                go_simp
                with_reducible rfl
               rotate_left
               ·simp only [Act.put, zl1, zl2, zl3, i64_w, i32_w]
                rfl
               refine pure_ (i := 1) (N := some 78) (v := ?_) (a' := ?_) #[Y,Y,Z,Z,Z,Z,Z,Z,Z,Z,Z,Z,Z,Z,Z,Z,Z,Z,Z,Z,Z,Z,Z,Z,Z] rfl rfl (any_of HT_.out (by kernel_rfl)) (fun _ _ _ h => h) (Or.inl ⟨by rfl, ?_⟩) ?_ ?_
               rotate_left
               ·intro w'
                go_simp
                with_reducible rfl
               rotate_left
               ·simp only [Act.put, zl1, zl2, zl3, i64_w, i32_w]
                rfl
               refine pure_ (i := 2) (N := some 79) (v := ?_) (a' := ?_) #[Y,Y,Y,Z,Z,Z,Z,Z,Z,Z,Z,Z,Z,Z,Z,Z,Z,Z,Z,Z,Z,Z,Z,Z,Z] rfl rfl (any_of HT_.out (by kernel_rfl)) (fun _ _ _ h => h) (Or.inl ⟨by rfl, ?_⟩) ?_ ?_
               rotate_left
               ·intro w'
                go_simp
                with_reducible rfl
               rotate_left
               ·simp only [Act.put, zl1, zl2, zl3, i64_w, i32_w]
                rfl
               refine pure_ (i := 3) (N := some 80) (v := ?_) (a' := ?_) #[Y,Y,Y,Y,Z,Z,Z,Z,Z,Z,Z,Z,Z,Z,Z,Z,Z,Z,Z,Z,Z,Z,Z,Z,Z] rfl rfl (any_of HT_.out (by kernel_rfl)) (fun _ _ _ h => h) (Or.inl ⟨by rfl, ?_⟩) ?_ ?_
               rotate_left
               ·intro w'
                go_simp
                with_reducible rfl
               rotate_left
               ·simp only [Act.put, zl1, zl2, zl3, i64_w, i32_w]
                rfl
               refine pure_ (i := 5) (N := some 82) (v := ?_) (a' := ?_) #[Y,Y,Y,Y,Z,Y,Z,Z,Z,Z,Z,Z,Z,Z,Z,Z,Z,Z,Z,Z,Z,Z,Z,Z,Z] rfl rfl (any_of HT_.out (by kernel_rfl)) (fun _ _ _ h => h) (Or.inl ⟨by rfl, ?_⟩) ?_ ?_
               rotate_left
               ·intro w'
                go_simp
                with_reducible rfl
               rotate_left
               ·simp only [Act.put, zl1, zl2, zl3, i64_w, i32_w]
                rfl
               refine pure_ (i := 6) (N := some 83) (v := ?_) (a' := ?_) #[Y,Y,Y,Y,Z,Y,Y,Z,Z,Z,Z,Z,Z,Z,Z,Z,Z,Z,Z,Z,Z,Z,Z,Z,Z] rfl rfl (any_of HT_.out (by kernel_rfl)) (fun _ _ _ h => h) (Or.inl ⟨by rfl, ?_⟩) ?_ ?_
               rotate_left
               ·intro w'
                go_simp
                with_reducible rfl
               rotate_left
               ·simp only [Act.put, zl1, zl2, zl3, i64_w, i32_w]
                rfl
               refine pure_ (i := 7) (N := some 84) (v := ?_) (a' := ?_) #[Y,Y,Y,Y,Z,Y,Y,Y,Z,Z,Z,Z,Z,Z,Z,Z,Z,Z,Z,Z,Z,Z,Z,Z,Z] rfl rfl (any_of HT_.out (by kernel_rfl)) (fun _ _ _ h => h) (Or.inl ⟨by rfl, ?_⟩) ?_ ?_
               rotate_left
               ·intro w'
                go_simp
                with_reducible rfl
               rotate_left
               ·simp only [Act.put, zl1, zl2, zl3, i64_w, i32_w]
                rfl
               refine pure_ (i := 8) (N := some 85) (v := ?_) (a' := ?_) #[Y,Y,Y,Y,Z,Y,Y,Y,Y,Z,Z,Z,Z,Z,Z,Z,Z,Z,Z,Z,Z,Z,Z,Z,Z] rfl rfl (any_of HT_.out (by kernel_rfl)) (fun _ _ _ h => h) (Or.inl ⟨by rfl, ?_⟩) ?_ ?_
               rotate_left
               ·intro w'
                go_simp
                with_reducible rfl
               rotate_left
               ·simp only [Act.put, zl1, zl2, zl3, i64_w, i32_w]
                rfl
               refine take_ (i := 4) (N := some 81) (v := ?_) (a' := ?_) #[Y,Y,Y,Y,Y,Y,Y,Y,Y,Z,Z,Z,Z,Z,Z,Z,Z,Z,Z,Z,Z,Z,Z,Z,Z] rfl rfl (take_ofW HT_.out HW_.out (by kernel_rfl)) (fun _ _ _ h => h) (Or.inl ⟨by rfl, ?_⟩) hHeld ?_ ?_
               rotate_left
               ·rintro w' ⟨s0, s1, s2, s3⟩
                go_simp
                with_reducible rfl
               rotate_left
               ·simp only [Act.put, zl1, zl2, zl3, i64_w, i32_w]
                rfl
               refine take_ (i := 9) (N := some 86) (v := ?_) (a' := ?_) #[Y,Y,Y,Y,Y,Y,Y,Y,Y,Y,Z,Z,Z,Z,Z,Z,Z,Z,Z,Z,Z,Z,Z,Z,Z] rfl rfl (take_ofW HT_.out HW_.out (by kernel_rfl)) (fun _ _ _ h => h) (Or.inl ⟨by rfl, ?_⟩) hHeld ?_ ?_
               rotate_left
               ·rintro w' ⟨s0, s1, s2, s3⟩
                go_simp
                with_reducible rfl
               rotate_left
               ·simp only [Act.put, zl1, zl2, zl3, i64_w, i32_w]
                rfl
               refine pure_ (i := 10) (N := some 87) (v := ?_) (a' := ?_) #[Y,Y,Y,Y,Y,Y,Y,Y,Y,Y,Y,Z,Z,Z,Z,Z,Z,Z,Z,Z,Z,Z,Z,Z,Z] rfl rfl (any_of HT_.out (by kernel_rfl)) (fun _ _ _ h => h) (Or.inl ⟨by rfl, ?_⟩) ?_ ?_
               rotate_left
               ·intro w'
                go_simp
                with_reducible rfl
               rotate_left
               ·simp only [Act.put, zl1, zl2, zl3, i64_w, i32_w]
                rfl
               refine pure_ (i := 11) (N := some 88) (v := ?_) (a' := ?_) #[Y,Y,Y,Y,Y,Y,Y,Y,Y,Y,Y,Y,Z,Z,Z,Z,Z,Z,Z,Z,Z,Z,Z,Z,Z] rfl rfl (any_of HT_.out (by kernel_rfl)) (fun _ _ _ h => h) (Or.inl ⟨by rfl, ?_⟩) ?_ ?_
               rotate_left
               ·intro w'
                go_simp
                with_reducible rfl
               rotate_left
               ·simp only [Act.put, zl1, zl2, zl3, i64_w, i32_w]
                rfl
               refine pure_ (i := 12) (N := some 89) (v := undef) (a' := ?_) #[Y,Y,Y,Y,Y,Y,Y,Y,Y,Y,Y,Y,Y,Z,Z,Z,Z,Z,Z,Z,Z,Z,Z,Z,Z] rfl rfl (any_of HT_.out (by kernel_rfl)) (fun _ _ _ h => h) (Or.inr ⟨by rfl, rfl⟩) ?_ ?_
               rotate_left
               ·simp only [Act.put, zl1, zl2, zl3, i64_w, i32_w]
                rfl
               refine pure_ (i := 13) (N := some 90) (v := undef) (a' := ?_) #[Y,Y,Y,Y,Y,Y,Y,Y,Y,Y,Y,Y,Y,Y,Z,Z,Z,Z,Z,Z,Z,Z,Z,Z,Z] rfl rfl (any_of HT_.out (by kernel_rfl)) (fun _ _ _ h => h) (Or.inr ⟨by rfl, rfl⟩) ?_ ?_
               rotate_left
               ·simp only [Act.put, zl1, zl2, zl3, i64_w, i32_w]
                rfl
               refine pure_ (i := 14) (N := some 91) (v := undef) (a' := ?_) #[Y,Y,Y,Y,Y,Y,Y,Y,Y,Y,Y,Y,Y,Y,Y,Z,Z,Z,Z,Z,Z,Z,Z,Z,Z] rfl rfl (any_of HT_.out (by kernel_rfl)) (fun _ _ _ h => h) (Or.inr ⟨by rfl, rfl⟩) ?_ ?_
               rotate_left
               ·simp only [Act.put, zl1, zl2, zl3, i64_w, i32_w]
                rfl
               refine pure_ (i := 15) (N := some 92) (v := undef) (a' := ?_) #[Y,Y,Y,Y,Y,Y,Y,Y,Y,Y,Y,Y,Y,Y,Y,Y,Z,Z,Z,Z,Z,Z,Z,Z,Z] rfl rfl (any_of HT_.out (by kernel_rfl)) (fun _ _ _ h => h) (Or.inr ⟨by rfl, rfl⟩) ?_ ?_
               rotate_left
               ·simp only [Act.put, zl1, zl2, zl3, i64_w, i32_w]
                rfl
               refine pure_ (i := 16) (N := some 93) (v := undef) (a' := ?_) #[Y,Y,Y,Y,Y,Y,Y,Y,Y,Y,Y,Y,Y,Y,Y,Y,Y,Z,Z,Z,Z,Z,Z,Z,Z] rfl rfl (any_of HT_.out (by kernel_rfl)) (fun _ _ _ h => h) (Or.inr ⟨by rfl, rfl⟩) ?_ ?_
               rotate_left
               ·simp only [Act.put, zl1, zl2, zl3, i64_w, i32_w]
                rfl
               refine pure_ (i := 17) (N := some 94) (v := undef) (a' := ?_) #[Y,Y,Y,Y,Y,Y,Y,Y,Y,Y,Y,Y,Y,Y,Y,Y,Y,Y,Z,Z,Z,Z,Z,Z,Z] rfl rfl (any_of HT_.out (by kernel_rfl)) (fun _ _ _ h => h) (Or.inr ⟨by rfl, rfl⟩) ?_ ?_
               rotate_left
               ·simp only [Act.put, zl1, zl2, zl3, i64_w, i32_w]
                rfl
               refine pure_ (i := 18) (N := some 95) (v := undef) (a' := ?_) #[Y,Y,Y,Y,Y,Y,Y,Y,Y,Y,Y,Y,Y,Y,Y,Y,Y,Y,Y,Z,Z,Z,Z,Z,Z] rfl rfl (any_of HT_.out (by kernel_rfl)) (fun _ _ _ h => h) (Or.inr ⟨by rfl, rfl⟩) ?_ ?_
               rotate_left
               ·simp only [Act.put, zl1, zl2, zl3, i64_w, i32_w]
                rfl
               refine pure_ (i := 19) (N := some 96) (v := undef) (a' := ?_) #[Y,Y,Y,Y,Y,Y,Y,Y,Y,Y,Y,Y,Y,Y,Y,Y,Y,Y,Y,Y,Z,Z,Z,Z,Z] rfl rfl (any_of HT_.out (by kernel_rfl)) (fun _ _ _ h => h) (Or.inr ⟨by rfl, rfl⟩) ?_ ?_
               rotate_left
               ·simp only [Act.put, zl1, zl2, zl3, i64_w, i32_w]
                rfl
               refine pure_ (i := 20) (N := some 97) (v := undef) (a' := ?_) #[Y,Y,Y,Y,Y,Y,Y,Y,Y,Y,Y,Y,Y,Y,Y,Y,Y,Y,Y,Y,Y,Z,Z,Z,Z] rfl rfl (any_of HT_.out (by kernel_rfl)) (fun _ _ _ h => h) (Or.inr ⟨by rfl, rfl⟩) ?_ ?_
               rotate_left
               ·simp only [Act.put, zl1, zl2, zl3, i64_w, i32_w]
                rfl
               refine pure_ (i := 21) (N := some 98) (v := undef) (a' := ?_) #[Y,Y,Y,Y,Y,Y,Y,Y,Y,Y,Y,Y,Y,Y,Y,Y,Y,Y,Y,Y,Y,Y,Z,Z,Z] rfl rfl (any_of HT_.out (by kernel_rfl)) (fun _ _ _ h => h) (Or.inr ⟨by rfl, rfl⟩) ?_ ?_
               rotate_left
               ·simp only [Act.put, zl1, zl2, zl3, i64_w, i32_w]
                rfl
               refine pure_ (i := 22) (N := some 99) (v := undef) (a' := ?_) #[Y,Y,Y,Y,Y,Y,Y,Y,Y,Y,Y,Y,Y,Y,Y,Y,Y,Y,Y,Y,Y,Y,Y,Z,Z] rfl rfl (any_of HT_.out (by kernel_rfl)) (fun _ _ _ h => h) (Or.inr ⟨by rfl, rfl⟩) ?_ ?_
               rotate_left
               ·simp only [Act.put, zl1, zl2, zl3, i64_w, i32_w]
                rfl
               refine pure_ (i := 23) (N := some 100) (v := undef) (a' := ?_) #[Y,Y,Y,Y,Y,Y,Y,Y,Y,Y,Y,Y,Y,Y,Y,Y,Y,Y,Y,Y,Y,Y,Y,Y,Z] rfl rfl (any_of HT_.out (by kernel_rfl)) (fun _ _ _ h => h) (Or.inr ⟨by rfl, rfl⟩) ?_ ?_
               rotate_left
               ·simp only [Act.put, zl1, zl2, zl3, i64_w, i32_w]
                rfl
               refine pure_ (i := 24) (N := some 101) (v := ?_) (a' := ?_) #[Y,Y,Y,Y,Y,Y,Y,Y,Y,Y,Y,Y,Y,Y,Y,Y,Y,Y,Y,Y,Y,Y,Y,Y,Y] rfl rfl (any_of HT_.out (by kernel_rfl)) (fun _ _ _ h => h) (Or.inl ⟨by rfl, ?_⟩) ?_ ?_
               rotate_left
               ·intro w'
                go_simp
                with_reducible rfl
               rotate_left
               ·simp only [Act.put, zl1, zl2, zl3, i64_w, i32_w]
                rfl
               refine done_ (done_of HT_.out (by kernel_rfl)) ?_
               try go_wp2
               go_ret
               exact ⟨by first | rfl | (simp [errW_none, errW_some] <;> rfl) | (simp [*, errW_none, errW_some] <;> rfl), by repeat (first | (with_reducible first | exact HB.out | apply below_alloc | apply pw_below_drewN | apply below_drew1 | refine below_set ?_ GE205.out) | exact HB.out)⟩
             ·rw [if_neg c54] at H
              exact absurd H (by simp)
            ·rw [if_neg c53] at H
             exact absurd H (by simp)
           ·rw [if_neg c52] at H
            have c52b0 : decide (x7_3 < (t215.length : Int)) = false := decide_eq_false c52
            clear c52
            have H' := zm H
            clear H
            obtain ⟨Ao67, co67, eo67⟩ := Kd.N_slice HO_5.out
            subst eo67
            go_wp2
            go_roundg k3
            case measure => have := HK1.out; have := HJ16.out; have := HK3.out; omega
            case rel => exact ⟨(wrap64 (x4_1 + 1)), (by first | rfl | (simp; done) | (simp [*]; done)), H', ⟨by have := HK1.out; have := HJ16.out; have := HK3.out; omega⟩, ⟨by (with_reducible repeat (first | apply Kd.N_alloc | apply Kd.N_drewN | apply Kd.N_drew)); exact Kd.N_mono HO_3.out (fun _ hk => hk.2.2)⟩, ⟨by (with_reducible repeat (first | apply Kd.V_alloc | apply Kd.V_drewN | apply Kd.V_drew)); exact Kd.V_mono HO_206001.out (fun _ hk => ⟨hk.1, hk.2.2.2⟩)⟩, ⟨by (with_reducible repeat (first | refine blk_drewN ?_ _ | refine blk_drew ?_ | refine blk_alloc ?_ _)); exact BK205.out⟩, ⟨by repeat (first | (with_reducible first | exact HB.out | apply below_alloc | apply pw_below_drewN | apply below_drew1 | refine below_set ?_ GE205.out) | exact HB.out)⟩⟩
     ·rw [if_neg c14] at H
      exact absurd H (by simp)
    ·rw [if_neg c13] at H
     have c13b0 : decide (x4_1 < (t207.length : Int)) = false := decide_eq_false c13
     clear c13
     replace H := Option.bind_eq_some_iff.mp H
     obtain ⟨t213, A680, H⟩ := H
     replace H : (some t213) = some r := H
     have A68 := zm A680
     clear A680
     obtain rfl := Option.some.inj H
     have hcz69_0 : wr.cell? ⟨gb205, 0, none⟩ = some (.int .i64 t206) := (blk_cell BK205.out 0).trans rfl
     have hcz69_1 : wr.cell? ⟨gb205, 1, none⟩ = some (.slice Ao9 t207.length co9) := (blk_cell BK205.out 1).trans rfl
     have hfz69_0 := blk_frozen BK205.out 0
     have hfz69_1 := blk_frozen BK205.out 1
     go_wp2_with (first | ((with_reducible refine gate_callee (f := 12) rfl ?_); refine goesL_ (some 102) rfl rfl Try.func12 (by kernel_rfl) rfl #[] rfl (by (try simp only [List.map_toArray, List.map_cons, List.map_nil]); first | done | rfl | (simp only [List.length_drop, List.length_take]; rfl)) ?_; (with_reducible refine (hallmarklaw07_lives.calls k1  t213 _ A68.out).mono ?_); rintro e w70 ⟨rfl, hb⟩; refine ⟨_, rfl, ?_⟩; have n0_ := zm (Kd.N_below (by (with_reducible repeat (first | apply Kd.N_alloc | apply Kd.N_drewN | apply Kd.N_drew)); exact HO_3.out) hb); have n1_ := zm (Kd.V_below (by (with_reducible repeat (first | apply Kd.V_alloc | apply Kd.V_drewN | apply Kd.V_drew)); exact HO_206001.out) hb); have n2_ := zm (blk_below (g := gb205) (o := .cells #[.int .i64 t206, .slice Ao9 t207.length co9] 24 (0, 0)) (by (with_reducible repeat (first | refine blk_drewN ?_ _ | refine blk_drew ?_ | refine blk_alloc ?_ _)); exact BK205.out) hb); have n3_ := zm (below_step (by repeat (first | (with_reducible first | exact HB.out | apply below_alloc | apply pw_below_drewN | apply below_drew1 | refine below_set ?_ GE205.out) | exact HB.out)) hb); clear HO_3; clear HO_206001; clear BK205; clear HB; have HO_3 := n0_; have HO_206001 := n1_; have BK205 := n2_; have HB := n3_; clear n0_ n1_ n2_ n3_; (try clear hb); (try clear hb2); (try clear hk); (try clear hi)))
     go_ret
     exact ⟨by first | rfl | (simp [errW_none, errW_some] <;> rfl) | (simp [*, errW_none, errW_some] <;> rfl), by repeat (first | (with_reducible first | exact HB.out | apply below_alloc | apply pw_below_drewN | apply below_drew1 | refine below_set ?_ GE205.out) | exact HB.out)⟩
 ·rw [if_neg c4] at H
  have c4b0 : ((t210.length : Int) == (t207.length : Int)) = false := beq_eq_false_iff_ne.mpr c4
  have c4b1 : ((t210.length : Int) != (t207.length : Int)) = true := bne_iff_ne.mpr c4
  have c4b2 : (t210.length == t207.length) = false := by first | simpa using c4 | (simp at c4 ⊢; omega)
  obtain rfl := Option.some.inj H
  go_enter Try.func7, Try.ntmps7
  go_wp2_with (first | ((with_reducible refine gate_dst (N := 1) rfl ?_); (try (refine gate_guard (by rfl) ?_; dsimp only)); refine box_event ?hg (N := 1) ?hd (cs := #[.int .i64 a0_0, .slice A0_1 l0_1.length c0_1]) (t := 24) ?hr ?_; (case hd => rfl); (case hg => rfl); (case hr => first | (go_simp; done) | (go_simp; rfl)); intro gb205 hg w71 hbox hb; have n0_ := zm (below_step (by repeat (first | (with_reducible first | exact HB.out | apply below_alloc | apply pw_below_drewN | apply below_drew1) | exact HB.out)) hb); have n1_ := zm (hbox); have n2_ := zm ((by rw [hg]; exact (below_size (by repeat (first | (with_reducible first | exact HB.out | apply below_alloc | apply pw_below_drewN | apply below_drew1) | exact HB.out))) : w.heap.size ≤ gb205)); have n3_ := zm ((by rw [hg]; exact (below_size (by repeat (first | (with_reducible first | exact HB.out | apply below_alloc | apply pw_below_drewN | apply below_drew1) | exact HB.out))) : w.heap.size ≤ gb205)); clear HB; have HB := n0_; have BK205 := n1_; have GW205 := n2_; have GE205 := n3_; clear n0_ n1_ n2_ n3_; clear hb hbox hg; have hcz72_0 : w71.cell? ⟨gb205, 0, none⟩ = some (.int .i64 a0_0) := (blk_cell BK205.out 0).trans rfl; have hcz72_1 : w71.cell? ⟨gb205, 1, none⟩ = some (.slice A0_1 l0_1.length c0_1) := (blk_cell BK205.out 1).trans rfl; have hfz72_0 := blk_frozen BK205.out 0; have hfz72_1 := blk_frozen BK205.out 1) | ((with_reducible refine gate_callee (f := 8) rfl ?_); refine goesL_ (some 9) rfl rfl Try.func8 (by kernel_rfl) rfl #[.agg #[.int .i64 a0_0, .slice A0_1 l0_1.length c0_1]] rfl (by (try simp only [List.map_toArray, List.map_cons, List.map_nil]); first | done | rfl | (simp only [List.length_drop, List.length_take]; rfl)) ?_; (with_reducible refine (hallmarklaw07_few.calls a0_0 (fun k_ => k_ < w.heap.size) _ _ l0_1 t206 t207 _ ?side1 A2.out).mono ?_); (case side1 => exact Kd.V_mk HC0_1.out (Kd.F_below (Kd.C_F k34_heap HR0_1.out) (by repeat (first | (with_reducible first | exact HB.out | apply below_alloc | apply pw_below_drewN | apply below_drew1 | refine below_set ?_ GE205.out) | exact HB.out)))); rintro e w73 ⟨v208, rfl, ho0, hb⟩; refine ⟨_, rfl, ?_⟩; have n0_ := zm (Kd.V_lower (Kd.V_mono (ok' := fun k_ => k_ ≠ gb205) ho0 (fun k_ hk_ => Or.elim hk_ (fun hs_ => fun e_ => Nat.not_le.2 hs_ (by rw [e_]; exact GW205.out)) (fun hn_ => (Kd.freshB (g := gb205) (o := .cells #[.int .i64 a0_0, .slice A0_1 l0_1.length c0_1] 24 (0, 0)) (by (with_reducible repeat (first | refine blk_drewN ?_ _ | refine blk_drew ?_ | refine blk_alloc ?_ _)); exact BK205.out) k_ hn_)))) (below_size (by repeat (first | (with_reducible first | exact HB.out | apply below_alloc | apply pw_below_drewN | apply below_drew1 | refine below_set ?_ GE205.out) | exact HB.out)))); have n1_ := zm (blk_below (g := gb205) (o := .cells #[.int .i64 a0_0, .slice A0_1 l0_1.length c0_1] 24 (0, 0)) (by (with_reducible repeat (first | refine blk_drewN ?_ _ | refine blk_drew ?_ | refine blk_alloc ?_ _)); exact BK205.out) hb); have n2_ := zm (below_step (by repeat (first | (with_reducible first | exact HB.out | apply below_alloc | apply pw_below_drewN | apply below_drew1 | refine below_set ?_ GE205.out) | exact HB.out)) hb); clear BK205; clear HB; have HO209 := n0_; have BK205 := n1_; have HB := n2_; clear n0_ n1_ n2_; (try clear hb); (try clear hb2); (try clear hk); (try clear hi); (try clear ho0); have hcz74_0 : w73.cell? ⟨gb205, 0, none⟩ = some (.int .i64 a0_0) := (blk_cell BK205.out 0).trans rfl; have hcz74_1 : w73.cell? ⟨gb205, 1, none⟩ = some (.slice A0_1 l0_1.length c0_1) := (blk_cell BK205.out 1).trans rfl; have hfz74_0 := blk_frozen BK205.out 0; have hfz74_1 := blk_frozen BK205.out 1; obtain ⟨Ao75, co75, eo75⟩ := Kd.V_slice HO209.out; subst eo75) | ((with_reducible refine gate_callee (f := 18) rfl ?_); refine goesL_ (some 11) rfl rfl Try.func18 (by kernel_rfl) rfl #[.agg #[.int .i64 t206, .slice Ao75 t207.length co75]] rfl (by (try simp only [List.map_toArray, List.map_cons, List.map_nil]); first | done | rfl | (simp only [List.length_drop, List.length_take]; rfl)) ?_; (with_reducible refine (cfg_Ahead.calls k t206 _ _ t207 t210 _ ?side1 ?side2 A3.out).mono ?_); (case side1 => refine (Kd.V_reads' (e := 34) (base := w.heap.size) (ok := fun k_ => k_ ≠ gb205) (n := t207.length) (c := co75) ?_).2.2; exact (by (with_reducible repeat (first | apply Kd.V_alloc | apply Kd.V_drewN | apply Kd.V_drew)); exact (Kd.V_mono (Kd.V_far (p := ⟨gb205, 1, none⟩) (Kd.V_far (p := ⟨gb205, 0, none⟩) (Kd.V_mono HO209.out (fun k_ hk => (⟨hk, hk⟩ : _ ∧ k_ ≠ gb205))) (fun _ hk => hk.2) (.int .i64 t206)) (fun _ hk => hk.2) (.slice Ao75 t207.length co75)) (fun _ h_ => h_.1)))); (case side2 => exact (Kd.V_reads' HO209.out).2.1); rintro e w76 ⟨v211, rfl, ho0, hb⟩; refine ⟨_, rfl, ?_⟩; have n0_ := zm (Kd.V_elder' (by (with_reducible repeat (first | apply Kd.V_alloc | apply Kd.V_drewN | apply Kd.V_drew)); exact (Kd.V_mono (Kd.V_far (p := ⟨gb205, 1, none⟩) (Kd.V_far (p := ⟨gb205, 0, none⟩) (Kd.V_mono HO209.out (fun k_ hk => (⟨hk, hk⟩ : _ ∧ k_ ≠ gb205))) (fun _ hk => hk.2) (.int .i64 t206)) (fun _ hk => hk.2) (.slice Ao75 t207.length co75)) (fun _ h_ => h_.1))) (Kd.S_base ho0) hb); have n1_ := zm (Kd.N_lower (Kd.N_mono (ok' := fun k_ => k_ ≠ gb205) (Kd.S_N (Kd.S_bound ho0)) (fun k_ hk_ => (Kd.freshB (g := gb205) (o := .cells #[.int .i64 t206, .slice Ao75 t207.length co75] 24 (0, 0)) (by (with_reducible repeat (first | refine blk_drewN ?_ _ | refine blk_drew ?_ | refine blk_alloc ?_ _)); refine blk_put (cs := #[.int .i64 t206, .slice A0_1 l0_1.length c0_1]) ?_ 1 _ rfl; (with_reducible repeat (first | refine blk_drewN ?_ _ | refine blk_drew ?_ | refine blk_alloc ?_ _)); refine blk_put (cs := #[.int .i64 a0_0, .slice A0_1 l0_1.length c0_1]) ?_ 0 _ rfl; (with_reducible repeat (first | refine blk_drewN ?_ _ | refine blk_drew ?_ | refine blk_alloc ?_ _)); exact BK205.out) k_ hk_.2.1))) (below_size (by repeat (first | (with_reducible first | exact HB.out | apply below_alloc | apply pw_below_drewN | apply below_drew1 | refine below_set ?_ GE205.out) | exact HB.out)))); have n2_ := zm (blk_below (g := gb205) (o := .cells #[.int .i64 t206, .slice Ao75 t207.length co75] 24 (0, 0)) (by (with_reducible repeat (first | refine blk_drewN ?_ _ | refine blk_drew ?_ | refine blk_alloc ?_ _)); refine blk_put (cs := #[.int .i64 t206, .slice A0_1 l0_1.length c0_1]) ?_ 1 _ rfl; (with_reducible repeat (first | refine blk_drewN ?_ _ | refine blk_drew ?_ | refine blk_alloc ?_ _)); refine blk_put (cs := #[.int .i64 a0_0, .slice A0_1 l0_1.length c0_1]) ?_ 0 _ rfl; (with_reducible repeat (first | refine blk_drewN ?_ _ | refine blk_drew ?_ | refine blk_alloc ?_ _)); exact BK205.out) hb); have n3_ := zm (below_step (by repeat (first | (with_reducible first | exact HB.out | apply below_alloc | apply pw_below_drewN | apply below_drew1 | refine below_set ?_ GE205.out) | exact HB.out)) hb); clear HO209; clear BK205; clear HB; have HO209 := n0_; have HO212 := n1_; have BK205 := n2_; have HB := n3_; clear n0_ n1_ n2_ n3_; (try clear hb); (try clear hb2); (try clear hk); (try clear hi); (try clear ho0); obtain ⟨Ao77, co77, eo77⟩ := Kd.N_slice HO212.out; subst eo77; have hcz78_0 : w76.cell? ⟨gb205, 0, none⟩ = some (.int .i64 t206) := (blk_cell BK205.out 0).trans rfl; have hcz78_1 : w76.cell? ⟨gb205, 1, none⟩ = some (.slice Ao75 t207.length co75) := (blk_cell BK205.out 1).trans rfl; have hfz78_0 := blk_frozen BK205.out 0; have hfz78_1 := blk_frozen BK205.out 1))
  go_ret
  exact ⟨by first | rfl | (simp [errW_none, errW_some] <;> rfl) | (simp [*, errW_none, errW_some] <;> rfl), by repeat (first | (with_reducible first | exact HB.out | apply below_alloc | apply pw_below_drewN | apply below_drew1 | refine below_set ?_ GE205.out) | exact HB.out)⟩

open Opens
def V84 (x : S84) : Prop := (Lit.int .i64 x.f0).wf = true ∧ (Lit.int .i64 x.f1).wf = true ∧ (Lit.int .i64 x.f2).wf = true ∧ (Lit.int .i64 x.f3).wf = true ∧ (Lit.int .i64 x.f4).wf = true ∧ x.f5.size ≤ 140737488351232 ∧ (x.f6.length * 8 ≤ 140737488351232 ∧ x.f6.length ≤ maxLen ∧ ∀ y ∈ x.f6, (Lit.int .i64 y).wf = true) ∧ True
theorem opens84 : OpensAs Try.prog k84 V84 84 := opens_iso (fun x : S84 => (x.f0, x.f1, x.f2, x.f3, x.f4, x.f5, x.f6, x.f7)) (fun p => ⟨p.1, p.2.1, p.2.2.1, p.2.2.2.1, p.2.2.2.2.1, p.2.2.2.2.2.1, p.2.2.2.2.2.2.1, p.2.2.2.2.2.2.2⟩) (fun _ => rfl) (opens_struct Try.underlying84 (by kernel_rfl) (fields_cons rfl (opens_int Try.underlying3 (by kernel_rfl)) (fields_cons rfl (opens_int Try.underlying3 (by kernel_rfl)) (fields_cons rfl (opens_int Try.underlying3 (by kernel_rfl)) (fields_cons rfl (opens_int Try.underlying3 (by kernel_rfl)) (fields_cons rfl (opens_int Try.underlying2 (by kernel_rfl)) (fields_cons rfl (opens_string Try.underlying9 (by kernel_rfl)) (fields_cons rfl (opens_slice Try.underlying26 (by kernel_rfl) (opens_int Try.underlying3 (by kernel_rfl)) (B := 8) (by kernel_rfl)) (fields_one rfl (opens_bool Try.underlying4 (by kernel_rfl)))))))))))
def V32 (x : S32) : Prop := (Lit.int .i64 x.f0).wf = true ∧ (Lit.int .i64 x.f1).wf = true ∧ (Lit.int .i64 x.f2).wf = true ∧ (Lit.int .i64 x.f3).wf = true ∧ (x.f4.length * 8 ≤ 140737488351232 ∧ x.f4.length ≤ maxLen ∧ ∀ y ∈ x.f4, (Lit.int .i64 y).wf = true) ∧ (x.f5.length * 8 ≤ 140737488351232 ∧ x.f5.length ≤ maxLen ∧ ∀ y ∈ x.f5, (Lit.int .i64 y).wf = true)
theorem opens32 : OpensAs Try.prog k32 V32 32 := opens_iso (fun x : S32 => (x.f0, x.f1, x.f2, x.f3, x.f4, x.f5)) (fun p => ⟨p.1, p.2.1, p.2.2.1, p.2.2.2.1, p.2.2.2.2.1, p.2.2.2.2.2⟩) (fun _ => rfl) (opens_struct Try.underlying32 (by kernel_rfl) (fields_cons rfl (opens_int Try.underlying3 (by kernel_rfl)) (fields_cons rfl (opens_int Try.underlying3 (by kernel_rfl)) (fields_cons rfl (opens_int Try.underlying3 (by kernel_rfl)) (fields_cons rfl (opens_int Try.underlying3 (by kernel_rfl)) (fields_cons rfl (opens_slice Try.underlying26 (by kernel_rfl) (opens_int Try.underlying3 (by kernel_rfl)) (B := 8) (by kernel_rfl)) (fields_one rfl (opens_slice Try.underlying26 (by kernel_rfl) (opens_int Try.underlying3 (by kernel_rfl)) (B := 8) (by kernel_rfl)))))))))
def V34 (x : S34) : Prop := (x.f0.length * 8 ≤ 140737488351232 ∧ x.f0.length ≤ maxLen ∧ ∀ y ∈ x.f0, (Lit.int .i64 y).wf = true) ∧ (x.f1.length * 88 ≤ 140737488351232 ∧ x.f1.length ≤ maxLen ∧ ∀ y ∈ x.f1, V84 y) ∧ V32 x.f2
theorem opens34 : OpensAs Try.prog k34 V34 34 := opens_iso (fun x : S34 => (x.f0, x.f1, x.f2)) (fun p => ⟨p.1, p.2.1, p.2.2⟩) (fun _ => rfl) (opens_struct Try.underlying34 (by kernel_rfl) (fields_cons rfl (opens_slice Try.underlying26 (by kernel_rfl) (opens_int Try.underlying3 (by kernel_rfl)) (B := 8) (by kernel_rfl)) (fields_cons rfl (opens_slice Try.underlying30 (by kernel_rfl) opens84 (B := 88) (by kernel_rfl)) (fields_one rfl opens32))))
/-- THE ONE PURE STATEMENT of hallmarklaw07_CfgNext. -/
def hallmarklaw07_CfgNext.Pure : Prop := ∀ (a0_0 : Int) (l0_1 : List (S34)), (Lit.int .i64 a0_0).wf = true → (l0_1.length * 128 ≤ 140737488351232 ∧ l0_1.length ≤ maxLen ∧ ∀ y ∈ l0_1, V34 y) → ∃ k, hallmarklaw07_CfgNext.f k a0_0 l0_1 = some true

end Go.Proofs.Ytfkicdelkjjliaa.PCfgNext
