-- written by wip/print2.py
import Derived.Test.YtbjdiaefchcbjaaDoorPKindResultsx0
import Derived.Test.YtbjdiaefchcbjaaDoorPKindResultsx5
import Derived.Test.YtbjdiaefchcbjaaDoorPKindResultsx6
import Derived.Test.YtbjdiaefchcbjaaDoorPKindResultsx11
namespace Go.Proofs.YtbjdiaefchcbjaaDoor.PKindResults
open Go.RowKit Go.Proofs.YtbjdiaefchcbjaaDoorW.PrintWords Go.Proofs.YtbjdiaefchcbjaaDoorW.PrintLast Go.Proofs.YtbjdiaefchcbjaaDoorW.PrintMore
attribute [local go_sem] max2_int min2_int max_two min_two max_three min_three max_four min_four   -- for this text's walks alone
set_option linter.unusedVariables false
set_option linter.unusedSimpArgs false

/-! ### hallmarkref04_result: function 35 -/
theorem res_ints0 (a b : List Int) (hab : a.length = b.length) (hn : a.length ≤ 9223372036854775807) : ∀ (d j k : Nat), d + j = a.length → d < k → hallmarkref04_Ints.l0 k a b (j : Int) = some (decide (a.drop j = b.drop j)) := by
  intro d
  induction d with
  | zero =>
    intro j k hd hk
    obtain ⟨k, rfl⟩ : ∃ m, k = m + 1 := ⟨k - 1, by omega⟩
    rw [hallmarkref04_Ints.l0, if_neg (by omega), List.drop_eq_nil_of_le (by omega), List.drop_eq_nil_of_le (by omega)]
    rfl
  | succ d ih =>
    intro j k hd hk
    obtain ⟨k, rfl⟩ : ∃ m, k = m + 1 := ⟨k - 1, by omega⟩
    have ha : j < a.length := by omega
    have hb : j < b.length := by omega
    rw [hallmarkref04_Ints.l0, if_pos (by omega), if_pos (by omega), if_pos (by omega), res_rd a j ha, res_rd b j hb, List.drop_eq_getElem_cons ha, List.drop_eq_getElem_cons hb]
    by_cases e : a[j] = b[j]
    · rw [if_pos e, res_w j a.length ha hn, ih (j + 1) k (by omega) (by omega)]
      exact congrArg some (decide_eq_decide.2 ⟨fun h => by rw [h, e], fun h => (List.cons.inj h).2⟩)
    · rw [if_neg e, decide_eq_false (fun h => e (List.cons.inj h).1)]
theorem res_ints (a b : List Int) (hn : a.length ≤ 9223372036854775807) : hallmarkref04_Ints.f (a.length + 1) a b = some (decide (a = b)) := by
  unfold hallmarkref04_Ints.f
  by_cases h : a.length = b.length
  · rw [if_pos (by omega)]
    have := res_ints0 a b h hn a.length 0 (a.length + 1) (by omega) (by omega)
    rw [List.drop_zero, List.drop_zero] at this
    exact this
  · rw [if_neg (by omega), decide_eq_false (fun e => h (by rw [e]))]
theorem ints_calls (A : Option Addr) (c : Nat) (l : List Int) (A' : Option Addr) (c' : Nat) (l' : List Int) (b : Bool) (hb : decide (l = l') = b) (X : World) (h1 : Kd.C (Kd.int .i64) X A l.length l) (h2 : l.length ≤ c) (h3 : Kd.C (Kd.int .i64) X A' l'.length l') (h4 : l'.length ≤ c') :
    Calls Tryd.prog 20 #[.slice A l.length c, .slice A' l'.length c'] X fun e w' => e = .returned (.bool b) ∧ Drawn0 X w' :=
  hallmarkref04_Ints.calls (l.length + 1) A c l A' c' l' _ X h1 h2 h3 h4 (by rw [res_ints l l' (Kd.C_max h1), hb])
theorem ints_callsN (A : Option Addr) (n c : Nat) (l : List Int) (hn : n = l.length) (A' : Option Addr) (c' : Nat) (l' : List Int) (b : Bool) (hb : decide (l = l') = b) (X : World) (h1 : Kd.C (Kd.int .i64) X A l.length l) (h2 : n ≤ c) (h3 : Kd.C (Kd.int .i64) X A' l'.length l') (h4 : l'.length ≤ c') :
    Calls Tryd.prog 20 #[.slice A n c, .slice A' l'.length c'] X fun e w' => e = .returned (.bool b) ∧ Drawn0 X w' := by
  subst hn
  exact ints_calls A c l A' c' l' b hb X h1 h2 h3 h4
theorem ints_calls2 (A : Option Addr) (c : Nat) (l : List Int) (A' : Option Addr) (n' c' : Nat) (l' : List Int) (hn : n' = l'.length) (X : World) (h1 : Kd.C (Kd.int .i64) X A l.length l) (h2 : l.length ≤ c) (h3 : Kd.C (Kd.int .i64) X A' n' l') (h4 : n' ≤ c') :
    Calls Tryd.prog 20 #[.slice A l.length c, .slice A' n' c'] X fun e w' => e = .returned (.bool (decide (l = l'))) ∧ Drawn0 X w' := by
  subst hn
  exact ints_calls A c l A' c' l' _ rfl X h1 h2 h3 h4
theorem lit00 (W : World) : Kd.C (Kd.int .i64) (W.alloc (.cells #[.int .i64 0, .int .i64 0] 3)) (some ⟨W.heap.size, 0, none⟩) 2 [0, 0] := litR W [0, 0] (by simp)
theorem lit00d (W : World) (n : Nat) : Kd.C (Kd.int .i64) ((W.drewN n).alloc (.cells #[.int .i64 0, .int .i64 0] 3)) (some ⟨W.heap.size, 0, none⟩) 2 [0, 0] := lit00 (W.drewN n)
def tellsS (n : Int) : Int := if n < 0 ∨ n > 13 then -1 else if n ≥ 10 then 1 else 0
theorem tells_calls (n : Int) (X : World) : Calls Tryd.prog 45 #[.int .i64 n] X fun e w' => e = .returned (.int .i64 (tellsS n)) ∧ Drawn0 X w' :=
  hallmarkref01_Tells.calls 1 n _ X (by
    unfold hallmarkref01_Tells.f tellsS
    by_cases h : n < 0
    · rw [if_pos h, hallmarkref01_Tells.j0, if_pos rfl, if_pos (Or.inl h)]
    · rw [if_neg h, hallmarkref01_Tells.j0]
      by_cases h2 : n > 13
      · rw [if_pos (decide_eq_true h2), if_pos (Or.inr h2)]
      · rw [if_neg (by rw [decide_eq_false h2]; decide), if_neg (show ¬ (n < 0 ∨ n > 13) by omega)]
        by_cases h3 : n ≥ 10
        · rw [if_pos h3, if_pos h3]
        · rw [if_neg h3, if_neg h3])
theorem at_mid (l : List Int) (i : Nat) (h : i < l.length) : rd l (i : Int) ∈ l := by rw [res_rd l i h]; exact List.getElem_mem h
set_option maxHeartbeats 4000000 in
set_option maxRecDepth 100000 in
theorem refF (g : Nat) (B0 : Option Addr) (d0 : Nat) (s0_0 : List S73) (B1 : Option Addr) (d1 : Nat) (s0_1 : List S77) (B2 : Option Addr) (d2 : Nat) (s0_2 : List S66) (n a1_1 a1_2 a1_3 : Int) (a1_5 : ByteArray) (A1_6 : Option Addr) (c1_6 : Nat) (l1_6 : List Int) (a1_7 : Bool) (A2 : Option Addr) (c2 : Nat) (l2 : List Int) (w : World) (hP : PA w g B0 d0 s0_0 B1 d1 s0_1 B2 d2 s0_2) (hr2 : Kd.C (Kd.int .i64) w A2 l2.length l2) (hc2 : l2.length ≤ c2) (K t : Int) (want : List Int) (HWA : Aside0 (hallmarkref04_wants.f 1 K = some (want, t, true))) (HE : Aside0 (decide (l2 = want) = false)) :
    Calls Tryd.prog 35 #[.pointer (some ⟨g, 0, none⟩), .agg #[.int .i64 K, .int .i64 a1_1, .int .i64 a1_2, .int .i64 a1_3, .int .i64 n, .string a1_5, .slice A1_6 l1_6.length c1_6, .bool a1_7], .slice A2 l2.length c2] w fun e w' => e = .returned (.tuple #[.int .i64 (t), .bool (false)]) ∧ Below w.heap.size w w' := by
  obtain ⟨W1, hW1⟩ : ∃ W1, w.alloc (.cells #[.int .i64 K, .int .i64 a1_1, .int .i64 a1_2, .int .i64 a1_3, .int .i64 n, .string a1_5, .slice A1_6 l1_6.length c1_6, .bool a1_7] 33) = W1 := ⟨_, rfl⟩
  have hb1 : Below w.heap.size w W1 := by rw [← hW1]; exact below_alloc (Below.refl _ _) _
  have hB1 : W1.heap[w.heap.size]? = some (.cells #[.int .i64 K, .int .i64 a1_1, .int .i64 a1_2, .int .i64 a1_3, .int .i64 n, .string a1_5, .slice A1_6 l1_6.length c1_6, .bool a1_7] 33 (0, 0)) := by rw [← hW1]; exact heap_alloc_new w _
  have HB1 := Aside0.mk hB1
  have HP1 := Aside0.mk hP
  have HR1 := Aside0.mk hr2
  have HC := Aside0.mk hc2
  have HBW := Aside0.mk hb1
  have o0 : W1.cell? ⟨w.heap.size, 0, none⟩ = some (.int .i64 K) := (blk_cell hB1 0).trans rfl
  clear hP hr2 hc2 hb1 hB1
  go_enter Tryd.func35, Tryd.ntmps35
  go_wp2_with (first | (go_at_call 44; (with_reducible refine (hallmarkref04_wants.calls 1 K (want) (t) true W1 HWA.out).mono ?_); rintro e W2 ⟨vw, rfl, hvw, hbw⟩; obtain ⟨Aw, cw, rfl, hcw, hAw⟩ := Kd.R_reads hvw; have HAW := Aside0.mk hAw; have HCW := Aside0.mk hcw; have HB := Aside0.mk (below_step HBW.out hbw); have HBO := Aside0.mk (blk_below HB1.out hbw); clear hvw hbw hAw hcw HBW HB1 o0; have HP := Aside0.mk (HP1.out.below HB.out); have HR := Aside0.mk (Kd.C_below HR1.out HB.out); have o0 : W2.cell? ⟨w.heap.size, 0, none⟩ = some (.int .i64 K) := (blk_cell HBO.out 0).trans rfl; have o4 : W2.cell? ⟨w.heap.size, 4, none⟩ = some (.int .i64 n) := (blk_cell HBO.out 4).trans rfl; have o5 : W2.cell? ⟨w.heap.size, 5, none⟩ = some (.string a1_5) := (blk_cell HBO.out 5).trans rfl; have p0 : W2.cell? ⟨g, 0, none⟩ = some (.slice B0 s0_0.length d0) := (blk_cell HP.out.b 0).trans rfl; have p1 : W2.cell? ⟨g, 1, none⟩ = some (.slice B1 s0_1.length d1) := (blk_cell HP.out.b 1).trans rfl; have p2 : W2.cell? ⟨g, 2, none⟩ = some (.slice B2 s0_2.length d2) := (blk_cell HP.out.b 2).trans rfl))
  go_quiet ((go_at_call 20; (first | refine Calls.quiet_of (v := .bool false) ?_ | refine quiet_sum (v := .bool false) ?_ | refine quiet_sum2 (v := .bool false) ?_); (with_reducible refine (ints_calls A2 c2 l2 Aw cw want false HE.out _ (Kd.C_drewN HR.out _) HC.out (Kd.C_drewN HAW.out _) HCW.out).mono ?_); rintro e Z2 ⟨he, ⟨hd⟩⟩; exact ⟨he, hd⟩))
  go_wp2
  go_ret2
  exact ⟨by first | rfl | (simp only [i64_w]; done) | (simp only [i64_w]; rfl) | (simp [*]; done), by repeat (first | exact HB.out | apply pw_below_drewN | apply below_alloc)⟩

set_option maxHeartbeats 4000000 in
set_option maxRecDepth 100000 in
theorem refT (g : Nat) (B0 : Option Addr) (d0 : Nat) (s0_0 : List S73) (B1 : Option Addr) (d1 : Nat) (s0_1 : List S77) (B2 : Option Addr) (d2 : Nat) (s0_2 : List S66) (n a1_1 a1_2 a1_3 : Int) (a1_5 : ByteArray) (A1_6 : Option Addr) (c1_6 : Nat) (l1_6 : List Int) (a1_7 : Bool) (A2 : Option Addr) (c2 : Nat) (l2 : List Int) (w : World) (hP : PA w g B0 d0 s0_0 B1 d1 s0_1 B2 d2 s0_2) (hr2 : Kd.C (Kd.int .i64) w A2 l2.length l2) (hc2 : l2.length ≤ c2) (K t : Int) (want : List Int) (HWA : Aside0 (hallmarkref04_wants.f 1 K = some (want, t, true))) (HE : Aside0 (decide (l2 = want) = true)) (n1 : (K != 1) = true) (n2 : (K != 2) = true) (n12 : (K != 12) = true) :
    Calls Tryd.prog 35 #[.pointer (some ⟨g, 0, none⟩), .agg #[.int .i64 K, .int .i64 a1_1, .int .i64 a1_2, .int .i64 a1_3, .int .i64 n, .string a1_5, .slice A1_6 l1_6.length c1_6, .bool a1_7], .slice A2 l2.length c2] w fun e w' => e = .returned (.tuple #[.int .i64 (t), .bool (true)]) ∧ Below w.heap.size w w' := by
  obtain ⟨W1, hW1⟩ : ∃ W1, w.alloc (.cells #[.int .i64 K, .int .i64 a1_1, .int .i64 a1_2, .int .i64 a1_3, .int .i64 n, .string a1_5, .slice A1_6 l1_6.length c1_6, .bool a1_7] 33) = W1 := ⟨_, rfl⟩
  have hb1 : Below w.heap.size w W1 := by rw [← hW1]; exact below_alloc (Below.refl _ _) _
  have hB1 : W1.heap[w.heap.size]? = some (.cells #[.int .i64 K, .int .i64 a1_1, .int .i64 a1_2, .int .i64 a1_3, .int .i64 n, .string a1_5, .slice A1_6 l1_6.length c1_6, .bool a1_7] 33 (0, 0)) := by rw [← hW1]; exact heap_alloc_new w _
  have HB1 := Aside0.mk hB1
  have HP1 := Aside0.mk hP
  have HR1 := Aside0.mk hr2
  have HC := Aside0.mk hc2
  have HBW := Aside0.mk hb1
  have o0 : W1.cell? ⟨w.heap.size, 0, none⟩ = some (.int .i64 K) := (blk_cell hB1 0).trans rfl
  clear hP hr2 hc2 hb1 hB1
  go_enter Tryd.func35, Tryd.ntmps35
  go_wp2_with (first | (go_at_call 44; (with_reducible refine (hallmarkref04_wants.calls 1 K (want) (t) true W1 HWA.out).mono ?_); rintro e W2 ⟨vw, rfl, hvw, hbw⟩; obtain ⟨Aw, cw, rfl, hcw, hAw⟩ := Kd.R_reads hvw; have HAW := Aside0.mk hAw; have HCW := Aside0.mk hcw; have HB := Aside0.mk (below_step HBW.out hbw); have HBO := Aside0.mk (blk_below HB1.out hbw); clear hvw hbw hAw hcw HBW HB1 o0; have HP := Aside0.mk (HP1.out.below HB.out); have HR := Aside0.mk (Kd.C_below HR1.out HB.out); have o0 : W2.cell? ⟨w.heap.size, 0, none⟩ = some (.int .i64 K) := (blk_cell HBO.out 0).trans rfl; have o4 : W2.cell? ⟨w.heap.size, 4, none⟩ = some (.int .i64 n) := (blk_cell HBO.out 4).trans rfl; have o5 : W2.cell? ⟨w.heap.size, 5, none⟩ = some (.string a1_5) := (blk_cell HBO.out 5).trans rfl; have p0 : W2.cell? ⟨g, 0, none⟩ = some (.slice B0 s0_0.length d0) := (blk_cell HP.out.b 0).trans rfl; have p1 : W2.cell? ⟨g, 1, none⟩ = some (.slice B1 s0_1.length d1) := (blk_cell HP.out.b 1).trans rfl; have p2 : W2.cell? ⟨g, 2, none⟩ = some (.slice B2 s0_2.length d2) := (blk_cell HP.out.b 2).trans rfl))
  go_quiet ((go_at_call 20; (first | refine Calls.quiet_of (v := .bool true) ?_ | refine quiet_sum (v := .bool true) ?_ | refine quiet_sum2 (v := .bool true) ?_); (with_reducible refine (ints_calls A2 c2 l2 Aw cw want true HE.out _ (Kd.C_drewN HR.out _) HC.out (Kd.C_drewN HAW.out _) HCW.out).mono ?_); rintro e Z2 ⟨he, ⟨hd⟩⟩; exact ⟨he, hd⟩))
  go_wp2
  go_ret2
  exact ⟨by first | rfl | (simp only [i64_w]; done) | (simp only [i64_w]; rfl) | (simp [*]; done), by repeat (first | exact HB.out | apply pw_below_drewN | apply below_alloc)⟩

set_option maxHeartbeats 4000000 in
set_option maxRecDepth 100000 in
theorem refT1a (g : Nat) (B0 : Option Addr) (d0 : Nat) (s0_0 : List S73) (B1 : Option Addr) (d1 : Nat) (s0_1 : List S77) (B2 : Option Addr) (d2 : Nat) (s0_2 : List S66) (n a1_1 a1_2 a1_3 : Int) (a1_5 : ByteArray) (A1_6 : Option Addr) (c1_6 : Nat) (l1_6 : List Int) (a1_7 : Bool) (A2 : Option Addr) (c2 : Nat) (l2 : List Int) (w : World) (hP : PA w g B0 d0 s0_0 B1 d1 s0_1 B2 d2 s0_2) (hr2 : Kd.C (Kd.int .i64) w A2 l2.length l2) (hc2 : l2.length ≤ c2) (t : Int) (want : List Int) (HWA : Aside0 (hallmarkref04_wants.f 1 1 = some (want, t, true))) (HE : Aside0 (decide (l2 = want) = true)) (c0 : (n == 0) = true) :
    Calls Tryd.prog 35 #[.pointer (some ⟨g, 0, none⟩), .agg #[.int .i64 1, .int .i64 a1_1, .int .i64 a1_2, .int .i64 a1_3, .int .i64 n, .string a1_5, .slice A1_6 l1_6.length c1_6, .bool a1_7], .slice A2 l2.length c2] w fun e w' => e = .returned (.tuple #[.int .i64 (t), .bool (true)]) ∧ Below w.heap.size w w' := by
  obtain ⟨W1, hW1⟩ : ∃ W1, w.alloc (.cells #[.int .i64 1, .int .i64 a1_1, .int .i64 a1_2, .int .i64 a1_3, .int .i64 n, .string a1_5, .slice A1_6 l1_6.length c1_6, .bool a1_7] 33) = W1 := ⟨_, rfl⟩
  have hb1 : Below w.heap.size w W1 := by rw [← hW1]; exact below_alloc (Below.refl _ _) _
  have hB1 : W1.heap[w.heap.size]? = some (.cells #[.int .i64 1, .int .i64 a1_1, .int .i64 a1_2, .int .i64 a1_3, .int .i64 n, .string a1_5, .slice A1_6 l1_6.length c1_6, .bool a1_7] 33 (0, 0)) := by rw [← hW1]; exact heap_alloc_new w _
  have HB1 := Aside0.mk hB1
  have HP1 := Aside0.mk hP
  have HR1 := Aside0.mk hr2
  have HC := Aside0.mk hc2
  have HBW := Aside0.mk hb1
  have o0 : W1.cell? ⟨w.heap.size, 0, none⟩ = some (.int .i64 1) := (blk_cell hB1 0).trans rfl
  clear hP hr2 hc2 hb1 hB1
  go_enter Tryd.func35, Tryd.ntmps35
  go_wp2_with (first | (go_at_call 44; (with_reducible refine (hallmarkref04_wants.calls 1 1 (want) (t) true W1 HWA.out).mono ?_); rintro e W2 ⟨vw, rfl, hvw, hbw⟩; obtain ⟨Aw, cw, rfl, hcw, hAw⟩ := Kd.R_reads hvw; have HAW := Aside0.mk hAw; have HCW := Aside0.mk hcw; have HB := Aside0.mk (below_step HBW.out hbw); have HBO := Aside0.mk (blk_below HB1.out hbw); clear hvw hbw hAw hcw HBW HB1 o0; have HP := Aside0.mk (HP1.out.below HB.out); have HR := Aside0.mk (Kd.C_below HR1.out HB.out); have o0 : W2.cell? ⟨w.heap.size, 0, none⟩ = some (.int .i64 1) := (blk_cell HBO.out 0).trans rfl; have o4 : W2.cell? ⟨w.heap.size, 4, none⟩ = some (.int .i64 n) := (blk_cell HBO.out 4).trans rfl; have o5 : W2.cell? ⟨w.heap.size, 5, none⟩ = some (.string a1_5) := (blk_cell HBO.out 5).trans rfl; have p0 : W2.cell? ⟨g, 0, none⟩ = some (.slice B0 s0_0.length d0) := (blk_cell HP.out.b 0).trans rfl; have p1 : W2.cell? ⟨g, 1, none⟩ = some (.slice B1 s0_1.length d1) := (blk_cell HP.out.b 1).trans rfl; have p2 : W2.cell? ⟨g, 2, none⟩ = some (.slice B2 s0_2.length d2) := (blk_cell HP.out.b 2).trans rfl))
  go_quiet ((go_at_call 20; (first | refine Calls.quiet_of (v := .bool true) ?_ | refine quiet_sum (v := .bool true) ?_ | refine quiet_sum2 (v := .bool true) ?_); (with_reducible refine (ints_calls A2 c2 l2 Aw cw want true HE.out _ (Kd.C_drewN HR.out _) HC.out (Kd.C_drewN HAW.out _) HCW.out).mono ?_); rintro e Z2 ⟨he, ⟨hd⟩⟩; exact ⟨he, hd⟩))
  go_wp2
  go_ret2
  exact ⟨by first | rfl | (simp only [i64_w]; done) | (simp only [i64_w]; rfl) | (simp [*]; done), by repeat (first | exact HB.out | apply pw_below_drewN | apply below_alloc)⟩

set_option maxHeartbeats 4000000 in
set_option maxRecDepth 100000 in
theorem refT1t (g : Nat) (B0 : Option Addr) (d0 : Nat) (s0_0 : List S73) (B1 : Option Addr) (d1 : Nat) (s0_1 : List S77) (B2 : Option Addr) (d2 : Nat) (s0_2 : List S66) (n a1_1 a1_2 a1_3 : Int) (a1_5 : ByteArray) (A1_6 : Option Addr) (c1_6 : Nat) (l1_6 : List Int) (a1_7 : Bool) (A2 : Option Addr) (c2 : Nat) (l2 : List Int) (w : World) (hP : PA w g B0 d0 s0_0 B1 d1 s0_1 B2 d2 s0_2) (hr2 : Kd.C (Kd.int .i64) w A2 l2.length l2) (hc2 : l2.length ≤ c2) (t : Int) (want : List Int) (HWA : Aside0 (hallmarkref04_wants.f 1 1 = some (want, t, true))) (HE : Aside0 (decide (l2 = want) = true)) (c0 : (n == 0) = false) (c1 : (n == 1) = true) :
    Calls Tryd.prog 35 #[.pointer (some ⟨g, 0, none⟩), .agg #[.int .i64 1, .int .i64 a1_1, .int .i64 a1_2, .int .i64 a1_3, .int .i64 n, .string a1_5, .slice A1_6 l1_6.length c1_6, .bool a1_7], .slice A2 l2.length c2] w fun e w' => e = .returned (.tuple #[.int .i64 (t), .bool (true)]) ∧ Below w.heap.size w w' := by
  obtain ⟨W1, hW1⟩ : ∃ W1, w.alloc (.cells #[.int .i64 1, .int .i64 a1_1, .int .i64 a1_2, .int .i64 a1_3, .int .i64 n, .string a1_5, .slice A1_6 l1_6.length c1_6, .bool a1_7] 33) = W1 := ⟨_, rfl⟩
  have hb1 : Below w.heap.size w W1 := by rw [← hW1]; exact below_alloc (Below.refl _ _) _
  have hB1 : W1.heap[w.heap.size]? = some (.cells #[.int .i64 1, .int .i64 a1_1, .int .i64 a1_2, .int .i64 a1_3, .int .i64 n, .string a1_5, .slice A1_6 l1_6.length c1_6, .bool a1_7] 33 (0, 0)) := by rw [← hW1]; exact heap_alloc_new w _
  have HB1 := Aside0.mk hB1
  have HP1 := Aside0.mk hP
  have HR1 := Aside0.mk hr2
  have HC := Aside0.mk hc2
  have HBW := Aside0.mk hb1
  have o0 : W1.cell? ⟨w.heap.size, 0, none⟩ = some (.int .i64 1) := (blk_cell hB1 0).trans rfl
  clear hP hr2 hc2 hb1 hB1
  go_enter Tryd.func35, Tryd.ntmps35
  go_wp2_with (first | (go_at_call 44; (with_reducible refine (hallmarkref04_wants.calls 1 1 (want) (t) true W1 HWA.out).mono ?_); rintro e W2 ⟨vw, rfl, hvw, hbw⟩; obtain ⟨Aw, cw, rfl, hcw, hAw⟩ := Kd.R_reads hvw; have HAW := Aside0.mk hAw; have HCW := Aside0.mk hcw; have HB := Aside0.mk (below_step HBW.out hbw); have HBO := Aside0.mk (blk_below HB1.out hbw); clear hvw hbw hAw hcw HBW HB1 o0; have HP := Aside0.mk (HP1.out.below HB.out); have HR := Aside0.mk (Kd.C_below HR1.out HB.out); have o0 : W2.cell? ⟨w.heap.size, 0, none⟩ = some (.int .i64 1) := (blk_cell HBO.out 0).trans rfl; have o4 : W2.cell? ⟨w.heap.size, 4, none⟩ = some (.int .i64 n) := (blk_cell HBO.out 4).trans rfl; have o5 : W2.cell? ⟨w.heap.size, 5, none⟩ = some (.string a1_5) := (blk_cell HBO.out 5).trans rfl; have p0 : W2.cell? ⟨g, 0, none⟩ = some (.slice B0 s0_0.length d0) := (blk_cell HP.out.b 0).trans rfl; have p1 : W2.cell? ⟨g, 1, none⟩ = some (.slice B1 s0_1.length d1) := (blk_cell HP.out.b 1).trans rfl; have p2 : W2.cell? ⟨g, 2, none⟩ = some (.slice B2 s0_2.length d2) := (blk_cell HP.out.b 2).trans rfl))
  go_quiet ((go_at_call 20; (first | refine Calls.quiet_of (v := .bool true) ?_ | refine quiet_sum (v := .bool true) ?_ | refine quiet_sum2 (v := .bool true) ?_); (with_reducible refine (ints_calls A2 c2 l2 Aw cw want true HE.out _ (Kd.C_drewN HR.out _) HC.out (Kd.C_drewN HAW.out _) HCW.out).mono ?_); rintro e Z2 ⟨he, ⟨hd⟩⟩; exact ⟨he, hd⟩))
  go_wp2
  go_ret2
  exact ⟨by first | rfl | (simp only [i64_w]; done) | (simp only [i64_w]; rfl) | (simp [*]; done), by repeat (first | exact HB.out | apply pw_below_drewN | apply below_alloc)⟩

set_option maxHeartbeats 4000000 in
set_option maxRecDepth 100000 in
theorem refT2t (g : Nat) (B0 : Option Addr) (d0 : Nat) (s0_0 : List S73) (B1 : Option Addr) (d1 : Nat) (s0_1 : List S77) (B2 : Option Addr) (d2 : Nat) (s0_2 : List S66) (n a1_1 a1_2 a1_3 : Int) (a1_5 : ByteArray) (A1_6 : Option Addr) (c1_6 : Nat) (l1_6 : List Int) (a1_7 : Bool) (A2 : Option Addr) (c2 : Nat) (l2 : List Int) (w : World) (hP : PA w g B0 d0 s0_0 B1 d1 s0_1 B2 d2 s0_2) (hr2 : Kd.C (Kd.int .i64) w A2 l2.length l2) (hc2 : l2.length ≤ c2) (t : Int) (want : List Int) (HWA : Aside0 (hallmarkref04_wants.f 1 2 = some (want, t, true))) (HE : Aside0 (decide (l2 = want) = true)) (c1 : decide (a1_5.size ≤ 64) = true) (c2b : decide ((a1_5.size : Int) ≤ 64) = true) :
    Calls Tryd.prog 35 #[.pointer (some ⟨g, 0, none⟩), .agg #[.int .i64 2, .int .i64 a1_1, .int .i64 a1_2, .int .i64 a1_3, .int .i64 n, .string a1_5, .slice A1_6 l1_6.length c1_6, .bool a1_7], .slice A2 l2.length c2] w fun e w' => e = .returned (.tuple #[.int .i64 (t), .bool (true)]) ∧ Below w.heap.size w w' := by
  obtain ⟨W1, hW1⟩ : ∃ W1, w.alloc (.cells #[.int .i64 2, .int .i64 a1_1, .int .i64 a1_2, .int .i64 a1_3, .int .i64 n, .string a1_5, .slice A1_6 l1_6.length c1_6, .bool a1_7] 33) = W1 := ⟨_, rfl⟩
  have hb1 : Below w.heap.size w W1 := by rw [← hW1]; exact below_alloc (Below.refl _ _) _
  have hB1 : W1.heap[w.heap.size]? = some (.cells #[.int .i64 2, .int .i64 a1_1, .int .i64 a1_2, .int .i64 a1_3, .int .i64 n, .string a1_5, .slice A1_6 l1_6.length c1_6, .bool a1_7] 33 (0, 0)) := by rw [← hW1]; exact heap_alloc_new w _
  have HB1 := Aside0.mk hB1
  have HP1 := Aside0.mk hP
  have HR1 := Aside0.mk hr2
  have HC := Aside0.mk hc2
  have HBW := Aside0.mk hb1
  have o0 : W1.cell? ⟨w.heap.size, 0, none⟩ = some (.int .i64 2) := (blk_cell hB1 0).trans rfl
  clear hP hr2 hc2 hb1 hB1
  go_enter Tryd.func35, Tryd.ntmps35
  go_wp2_with (first | (go_at_call 44; (with_reducible refine (hallmarkref04_wants.calls 1 2 (want) (t) true W1 HWA.out).mono ?_); rintro e W2 ⟨vw, rfl, hvw, hbw⟩; obtain ⟨Aw, cw, rfl, hcw, hAw⟩ := Kd.R_reads hvw; have HAW := Aside0.mk hAw; have HCW := Aside0.mk hcw; have HB := Aside0.mk (below_step HBW.out hbw); have HBO := Aside0.mk (blk_below HB1.out hbw); clear hvw hbw hAw hcw HBW HB1 o0; have HP := Aside0.mk (HP1.out.below HB.out); have HR := Aside0.mk (Kd.C_below HR1.out HB.out); have o0 : W2.cell? ⟨w.heap.size, 0, none⟩ = some (.int .i64 2) := (blk_cell HBO.out 0).trans rfl; have o4 : W2.cell? ⟨w.heap.size, 4, none⟩ = some (.int .i64 n) := (blk_cell HBO.out 4).trans rfl; have o5 : W2.cell? ⟨w.heap.size, 5, none⟩ = some (.string a1_5) := (blk_cell HBO.out 5).trans rfl; have p0 : W2.cell? ⟨g, 0, none⟩ = some (.slice B0 s0_0.length d0) := (blk_cell HP.out.b 0).trans rfl; have p1 : W2.cell? ⟨g, 1, none⟩ = some (.slice B1 s0_1.length d1) := (blk_cell HP.out.b 1).trans rfl; have p2 : W2.cell? ⟨g, 2, none⟩ = some (.slice B2 s0_2.length d2) := (blk_cell HP.out.b 2).trans rfl))
  go_quiet ((go_at_call 20; (first | refine Calls.quiet_of (v := .bool true) ?_ | refine quiet_sum (v := .bool true) ?_ | refine quiet_sum2 (v := .bool true) ?_); (with_reducible refine (ints_calls A2 c2 l2 Aw cw want true HE.out _ (Kd.C_drewN HR.out _) HC.out (Kd.C_drewN HAW.out _) HCW.out).mono ?_); rintro e Z2 ⟨he, ⟨hd⟩⟩; exact ⟨he, hd⟩))
  go_wp2
  go_ret2
  exact ⟨by first | rfl | (simp only [i64_w]; done) | (simp only [i64_w]; rfl) | (simp [*]; done), by repeat (first | exact HB.out | apply pw_below_drewN | apply below_alloc)⟩

set_option maxHeartbeats 4000000 in
set_option maxRecDepth 100000 in
theorem refT1f (g : Nat) (B0 : Option Addr) (d0 : Nat) (s0_0 : List S73) (B1 : Option Addr) (d1 : Nat) (s0_1 : List S77) (B2 : Option Addr) (d2 : Nat) (s0_2 : List S66) (n a1_1 a1_2 a1_3 : Int) (a1_5 : ByteArray) (A1_6 : Option Addr) (c1_6 : Nat) (l1_6 : List Int) (a1_7 : Bool) (A2 : Option Addr) (c2 : Nat) (l2 : List Int) (w : World) (hP : PA w g B0 d0 s0_0 B1 d1 s0_1 B2 d2 s0_2) (hr2 : Kd.C (Kd.int .i64) w A2 l2.length l2) (hc2 : l2.length ≤ c2) (t : Int) (want : List Int) (HWA : Aside0 (hallmarkref04_wants.f 1 1 = some (want, t, true))) (HE : Aside0 (decide (l2 = want) = true)) (c0 : (n == 0) = false) (c1 : (n == 1) = false) :
    Calls Tryd.prog 35 #[.pointer (some ⟨g, 0, none⟩), .agg #[.int .i64 1, .int .i64 a1_1, .int .i64 a1_2, .int .i64 a1_3, .int .i64 n, .string a1_5, .slice A1_6 l1_6.length c1_6, .bool a1_7], .slice A2 l2.length c2] w fun e w' => e = .returned (.tuple #[.int .i64 (t), .bool (false)]) ∧ Below w.heap.size w w' := by
  obtain ⟨W1, hW1⟩ : ∃ W1, w.alloc (.cells #[.int .i64 1, .int .i64 a1_1, .int .i64 a1_2, .int .i64 a1_3, .int .i64 n, .string a1_5, .slice A1_6 l1_6.length c1_6, .bool a1_7] 33) = W1 := ⟨_, rfl⟩
  have hb1 : Below w.heap.size w W1 := by rw [← hW1]; exact below_alloc (Below.refl _ _) _
  have hB1 : W1.heap[w.heap.size]? = some (.cells #[.int .i64 1, .int .i64 a1_1, .int .i64 a1_2, .int .i64 a1_3, .int .i64 n, .string a1_5, .slice A1_6 l1_6.length c1_6, .bool a1_7] 33 (0, 0)) := by rw [← hW1]; exact heap_alloc_new w _
  have HB1 := Aside0.mk hB1
  have HP1 := Aside0.mk hP
  have HR1 := Aside0.mk hr2
  have HC := Aside0.mk hc2
  have HBW := Aside0.mk hb1
  have o0 : W1.cell? ⟨w.heap.size, 0, none⟩ = some (.int .i64 1) := (blk_cell hB1 0).trans rfl
  clear hP hr2 hc2 hb1 hB1
  go_enter Tryd.func35, Tryd.ntmps35
  go_wp2_with (first | (go_at_call 44; (with_reducible refine (hallmarkref04_wants.calls 1 1 (want) (t) true W1 HWA.out).mono ?_); rintro e W2 ⟨vw, rfl, hvw, hbw⟩; obtain ⟨Aw, cw, rfl, hcw, hAw⟩ := Kd.R_reads hvw; have HAW := Aside0.mk hAw; have HCW := Aside0.mk hcw; have HB := Aside0.mk (below_step HBW.out hbw); have HBO := Aside0.mk (blk_below HB1.out hbw); clear hvw hbw hAw hcw HBW HB1 o0; have HP := Aside0.mk (HP1.out.below HB.out); have HR := Aside0.mk (Kd.C_below HR1.out HB.out); have o0 : W2.cell? ⟨w.heap.size, 0, none⟩ = some (.int .i64 1) := (blk_cell HBO.out 0).trans rfl; have o4 : W2.cell? ⟨w.heap.size, 4, none⟩ = some (.int .i64 n) := (blk_cell HBO.out 4).trans rfl; have o5 : W2.cell? ⟨w.heap.size, 5, none⟩ = some (.string a1_5) := (blk_cell HBO.out 5).trans rfl; have p0 : W2.cell? ⟨g, 0, none⟩ = some (.slice B0 s0_0.length d0) := (blk_cell HP.out.b 0).trans rfl; have p1 : W2.cell? ⟨g, 1, none⟩ = some (.slice B1 s0_1.length d1) := (blk_cell HP.out.b 1).trans rfl; have p2 : W2.cell? ⟨g, 2, none⟩ = some (.slice B2 s0_2.length d2) := (blk_cell HP.out.b 2).trans rfl))
  go_quiet ((go_at_call 20; (first | refine Calls.quiet_of (v := .bool true) ?_ | refine quiet_sum (v := .bool true) ?_ | refine quiet_sum2 (v := .bool true) ?_); (with_reducible refine (ints_calls A2 c2 l2 Aw cw want true HE.out _ (Kd.C_drewN HR.out _) HC.out (Kd.C_drewN HAW.out _) HCW.out).mono ?_); rintro e Z2 ⟨he, ⟨hd⟩⟩; exact ⟨he, hd⟩))
  go_wp2
  go_ret2
  exact ⟨by first | rfl | (simp only [i64_w]; done) | (simp only [i64_w]; rfl) | (simp [*]; done), by repeat (first | exact HB.out | apply pw_below_drewN | apply below_alloc)⟩

set_option maxHeartbeats 4000000 in
set_option maxRecDepth 100000 in
theorem refT2f (g : Nat) (B0 : Option Addr) (d0 : Nat) (s0_0 : List S73) (B1 : Option Addr) (d1 : Nat) (s0_1 : List S77) (B2 : Option Addr) (d2 : Nat) (s0_2 : List S66) (n a1_1 a1_2 a1_3 : Int) (a1_5 : ByteArray) (A1_6 : Option Addr) (c1_6 : Nat) (l1_6 : List Int) (a1_7 : Bool) (A2 : Option Addr) (c2 : Nat) (l2 : List Int) (w : World) (hP : PA w g B0 d0 s0_0 B1 d1 s0_1 B2 d2 s0_2) (hr2 : Kd.C (Kd.int .i64) w A2 l2.length l2) (hc2 : l2.length ≤ c2) (t : Int) (want : List Int) (HWA : Aside0 (hallmarkref04_wants.f 1 2 = some (want, t, true))) (HE : Aside0 (decide (l2 = want) = true)) (c1 : decide (a1_5.size ≤ 64) = false) (c2b : decide ((a1_5.size : Int) ≤ 64) = false) :
    Calls Tryd.prog 35 #[.pointer (some ⟨g, 0, none⟩), .agg #[.int .i64 2, .int .i64 a1_1, .int .i64 a1_2, .int .i64 a1_3, .int .i64 n, .string a1_5, .slice A1_6 l1_6.length c1_6, .bool a1_7], .slice A2 l2.length c2] w fun e w' => e = .returned (.tuple #[.int .i64 (t), .bool (false)]) ∧ Below w.heap.size w w' := by
  obtain ⟨W1, hW1⟩ : ∃ W1, w.alloc (.cells #[.int .i64 2, .int .i64 a1_1, .int .i64 a1_2, .int .i64 a1_3, .int .i64 n, .string a1_5, .slice A1_6 l1_6.length c1_6, .bool a1_7] 33) = W1 := ⟨_, rfl⟩
  have hb1 : Below w.heap.size w W1 := by rw [← hW1]; exact below_alloc (Below.refl _ _) _
  have hB1 : W1.heap[w.heap.size]? = some (.cells #[.int .i64 2, .int .i64 a1_1, .int .i64 a1_2, .int .i64 a1_3, .int .i64 n, .string a1_5, .slice A1_6 l1_6.length c1_6, .bool a1_7] 33 (0, 0)) := by rw [← hW1]; exact heap_alloc_new w _
  have HB1 := Aside0.mk hB1
  have HP1 := Aside0.mk hP
  have HR1 := Aside0.mk hr2
  have HC := Aside0.mk hc2
  have HBW := Aside0.mk hb1
  have o0 : W1.cell? ⟨w.heap.size, 0, none⟩ = some (.int .i64 2) := (blk_cell hB1 0).trans rfl
  clear hP hr2 hc2 hb1 hB1
  go_enter Tryd.func35, Tryd.ntmps35
  go_wp2_with (first | (go_at_call 44; (with_reducible refine (hallmarkref04_wants.calls 1 2 (want) (t) true W1 HWA.out).mono ?_); rintro e W2 ⟨vw, rfl, hvw, hbw⟩; obtain ⟨Aw, cw, rfl, hcw, hAw⟩ := Kd.R_reads hvw; have HAW := Aside0.mk hAw; have HCW := Aside0.mk hcw; have HB := Aside0.mk (below_step HBW.out hbw); have HBO := Aside0.mk (blk_below HB1.out hbw); clear hvw hbw hAw hcw HBW HB1 o0; have HP := Aside0.mk (HP1.out.below HB.out); have HR := Aside0.mk (Kd.C_below HR1.out HB.out); have o0 : W2.cell? ⟨w.heap.size, 0, none⟩ = some (.int .i64 2) := (blk_cell HBO.out 0).trans rfl; have o4 : W2.cell? ⟨w.heap.size, 4, none⟩ = some (.int .i64 n) := (blk_cell HBO.out 4).trans rfl; have o5 : W2.cell? ⟨w.heap.size, 5, none⟩ = some (.string a1_5) := (blk_cell HBO.out 5).trans rfl; have p0 : W2.cell? ⟨g, 0, none⟩ = some (.slice B0 s0_0.length d0) := (blk_cell HP.out.b 0).trans rfl; have p1 : W2.cell? ⟨g, 1, none⟩ = some (.slice B1 s0_1.length d1) := (blk_cell HP.out.b 1).trans rfl; have p2 : W2.cell? ⟨g, 2, none⟩ = some (.slice B2 s0_2.length d2) := (blk_cell HP.out.b 2).trans rfl))
  go_quiet ((go_at_call 20; (first | refine Calls.quiet_of (v := .bool true) ?_ | refine quiet_sum (v := .bool true) ?_ | refine quiet_sum2 (v := .bool true) ?_); (with_reducible refine (ints_calls A2 c2 l2 Aw cw want true HE.out _ (Kd.C_drewN HR.out _) HC.out (Kd.C_drewN HAW.out _) HCW.out).mono ?_); rintro e Z2 ⟨he, ⟨hd⟩⟩; exact ⟨he, hd⟩))
  go_wp2
  go_ret2
  exact ⟨by first | rfl | (simp only [i64_w]; done) | (simp only [i64_w]; rfl) | (simp [*]; done), by repeat (first | exact HB.out | apply pw_below_drewN | apply below_alloc)⟩

set_option maxHeartbeats 4000000 in
set_option maxRecDepth 100000 in
theorem refT12a (g : Nat) (B0 : Option Addr) (d0 : Nat) (s0_0 : List S73) (B1 : Option Addr) (d1 : Nat) (s0_1 : List S77) (B2 : Option Addr) (d2 : Nat) (s0_2 : List S66) (n a1_1 a1_2 a1_3 : Int) (a1_5 : ByteArray) (A1_6 : Option Addr) (c1_6 : Nat) (l1_6 : List Int) (a1_7 : Bool) (A2 : Option Addr) (c2 : Nat) (l2 : List Int) (w : World) (hP : PA w g B0 d0 s0_0 B1 d1 s0_1 B2 d2 s0_2) (hr2 : Kd.C (Kd.int .i64) w A2 l2.length l2) (hc2 : l2.length ≤ c2) (t : Int) (want : List Int) (HWA : Aside0 (hallmarkref04_wants.f 1 12 = some (want, t, true))) (HE : Aside0 (decide (l2 = want) = true)) (c0 : decide (0 ≤ n) = false) :
    Calls Tryd.prog 35 #[.pointer (some ⟨g, 0, none⟩), .agg #[.int .i64 12, .int .i64 a1_1, .int .i64 a1_2, .int .i64 a1_3, .int .i64 n, .string a1_5, .slice A1_6 l1_6.length c1_6, .bool a1_7], .slice A2 l2.length c2] w fun e w' => e = .returned (.tuple #[.int .i64 (t), .bool (false)]) ∧ Below w.heap.size w w' := by
  obtain ⟨W1, hW1⟩ : ∃ W1, w.alloc (.cells #[.int .i64 12, .int .i64 a1_1, .int .i64 a1_2, .int .i64 a1_3, .int .i64 n, .string a1_5, .slice A1_6 l1_6.length c1_6, .bool a1_7] 33) = W1 := ⟨_, rfl⟩
  have hb1 : Below w.heap.size w W1 := by rw [← hW1]; exact below_alloc (Below.refl _ _) _
  have hB1 : W1.heap[w.heap.size]? = some (.cells #[.int .i64 12, .int .i64 a1_1, .int .i64 a1_2, .int .i64 a1_3, .int .i64 n, .string a1_5, .slice A1_6 l1_6.length c1_6, .bool a1_7] 33 (0, 0)) := by rw [← hW1]; exact heap_alloc_new w _
  have HB1 := Aside0.mk hB1
  have HP1 := Aside0.mk hP
  have HR1 := Aside0.mk hr2
  have HC := Aside0.mk hc2
  have HBW := Aside0.mk hb1
  have o0 : W1.cell? ⟨w.heap.size, 0, none⟩ = some (.int .i64 12) := (blk_cell hB1 0).trans rfl
  clear hP hr2 hc2 hb1 hB1
  go_enter Tryd.func35, Tryd.ntmps35
  go_wp2_with (first | (go_at_call 44; (with_reducible refine (hallmarkref04_wants.calls 1 12 (want) (t) true W1 HWA.out).mono ?_); rintro e W2 ⟨vw, rfl, hvw, hbw⟩; obtain ⟨Aw, cw, rfl, hcw, hAw⟩ := Kd.R_reads hvw; have HAW := Aside0.mk hAw; have HCW := Aside0.mk hcw; have HB := Aside0.mk (below_step HBW.out hbw); have HBO := Aside0.mk (blk_below HB1.out hbw); clear hvw hbw hAw hcw HBW HB1 o0; have HP := Aside0.mk (HP1.out.below HB.out); have HR := Aside0.mk (Kd.C_below HR1.out HB.out); have o0 : W2.cell? ⟨w.heap.size, 0, none⟩ = some (.int .i64 12) := (blk_cell HBO.out 0).trans rfl; have o4 : W2.cell? ⟨w.heap.size, 4, none⟩ = some (.int .i64 n) := (blk_cell HBO.out 4).trans rfl; have o5 : W2.cell? ⟨w.heap.size, 5, none⟩ = some (.string a1_5) := (blk_cell HBO.out 5).trans rfl; have p0 : W2.cell? ⟨g, 0, none⟩ = some (.slice B0 s0_0.length d0) := (blk_cell HP.out.b 0).trans rfl; have p1 : W2.cell? ⟨g, 1, none⟩ = some (.slice B1 s0_1.length d1) := (blk_cell HP.out.b 1).trans rfl; have p2 : W2.cell? ⟨g, 2, none⟩ = some (.slice B2 s0_2.length d2) := (blk_cell HP.out.b 2).trans rfl))
  go_quiet ((go_at_call 20; (first | refine Calls.quiet_of (v := .bool true) ?_ | refine quiet_sum (v := .bool true) ?_ | refine quiet_sum2 (v := .bool true) ?_); (with_reducible refine (ints_calls A2 c2 l2 Aw cw want true HE.out _ (Kd.C_drewN HR.out _) HC.out (Kd.C_drewN HAW.out _) HCW.out).mono ?_); rintro e Z2 ⟨he, ⟨hd⟩⟩; exact ⟨he, hd⟩))
  go_wp2
  go_ret2
  exact ⟨by first | rfl | (simp only [i64_w]; done) | (simp only [i64_w]; rfl) | (simp [*]; done), by repeat (first | exact HB.out | apply pw_below_drewN | apply below_alloc)⟩

set_option maxHeartbeats 4000000 in
set_option maxRecDepth 100000 in
theorem refT12b (g : Nat) (B0 : Option Addr) (d0 : Nat) (s0_0 : List S73) (B1 : Option Addr) (d1 : Nat) (s0_1 : List S77) (B2 : Option Addr) (d2 : Nat) (s0_2 : List S66) (n a1_1 a1_2 a1_3 : Int) (a1_5 : ByteArray) (A1_6 : Option Addr) (c1_6 : Nat) (l1_6 : List Int) (a1_7 : Bool) (A2 : Option Addr) (c2 : Nat) (l2 : List Int) (w : World) (hP : PA w g B0 d0 s0_0 B1 d1 s0_1 B2 d2 s0_2) (hr2 : Kd.C (Kd.int .i64) w A2 l2.length l2) (hc2 : l2.length ≤ c2) (t : Int) (want : List Int) (HWA : Aside0 (hallmarkref04_wants.f 1 12 = some (want, t, true))) (HE : Aside0 (decide (l2 = want) = true)) (c0 : decide (0 ≤ n) = true) (b1 : Bool) (c1 : decide (n ≤ 128) = b1) :
    Calls Tryd.prog 35 #[.pointer (some ⟨g, 0, none⟩), .agg #[.int .i64 12, .int .i64 a1_1, .int .i64 a1_2, .int .i64 a1_3, .int .i64 n, .string a1_5, .slice A1_6 l1_6.length c1_6, .bool a1_7], .slice A2 l2.length c2] w fun e w' => e = .returned (.tuple #[.int .i64 (t), .bool (b1)]) ∧ Below w.heap.size w w' := by
  obtain ⟨W1, hW1⟩ : ∃ W1, w.alloc (.cells #[.int .i64 12, .int .i64 a1_1, .int .i64 a1_2, .int .i64 a1_3, .int .i64 n, .string a1_5, .slice A1_6 l1_6.length c1_6, .bool a1_7] 33) = W1 := ⟨_, rfl⟩
  have hb1 : Below w.heap.size w W1 := by rw [← hW1]; exact below_alloc (Below.refl _ _) _
  have hB1 : W1.heap[w.heap.size]? = some (.cells #[.int .i64 12, .int .i64 a1_1, .int .i64 a1_2, .int .i64 a1_3, .int .i64 n, .string a1_5, .slice A1_6 l1_6.length c1_6, .bool a1_7] 33 (0, 0)) := by rw [← hW1]; exact heap_alloc_new w _
  have HB1 := Aside0.mk hB1
  have HP1 := Aside0.mk hP
  have HR1 := Aside0.mk hr2
  have HC := Aside0.mk hc2
  have HBW := Aside0.mk hb1
  have o0 : W1.cell? ⟨w.heap.size, 0, none⟩ = some (.int .i64 12) := (blk_cell hB1 0).trans rfl
  clear hP hr2 hc2 hb1 hB1
  go_enter Tryd.func35, Tryd.ntmps35
  go_wp2_with (first | (go_at_call 44; (with_reducible refine (hallmarkref04_wants.calls 1 12 (want) (t) true W1 HWA.out).mono ?_); rintro e W2 ⟨vw, rfl, hvw, hbw⟩; obtain ⟨Aw, cw, rfl, hcw, hAw⟩ := Kd.R_reads hvw; have HAW := Aside0.mk hAw; have HCW := Aside0.mk hcw; have HB := Aside0.mk (below_step HBW.out hbw); have HBO := Aside0.mk (blk_below HB1.out hbw); clear hvw hbw hAw hcw HBW HB1 o0; have HP := Aside0.mk (HP1.out.below HB.out); have HR := Aside0.mk (Kd.C_below HR1.out HB.out); have o0 : W2.cell? ⟨w.heap.size, 0, none⟩ = some (.int .i64 12) := (blk_cell HBO.out 0).trans rfl; have o4 : W2.cell? ⟨w.heap.size, 4, none⟩ = some (.int .i64 n) := (blk_cell HBO.out 4).trans rfl; have o5 : W2.cell? ⟨w.heap.size, 5, none⟩ = some (.string a1_5) := (blk_cell HBO.out 5).trans rfl; have p0 : W2.cell? ⟨g, 0, none⟩ = some (.slice B0 s0_0.length d0) := (blk_cell HP.out.b 0).trans rfl; have p1 : W2.cell? ⟨g, 1, none⟩ = some (.slice B1 s0_1.length d1) := (blk_cell HP.out.b 1).trans rfl; have p2 : W2.cell? ⟨g, 2, none⟩ = some (.slice B2 s0_2.length d2) := (blk_cell HP.out.b 2).trans rfl))
  go_quiet ((go_at_call 20; (first | refine Calls.quiet_of (v := .bool true) ?_ | refine quiet_sum (v := .bool true) ?_ | refine quiet_sum2 (v := .bool true) ?_); (with_reducible refine (ints_calls A2 c2 l2 Aw cw want true HE.out _ (Kd.C_drewN HR.out _) HC.out (Kd.C_drewN HAW.out _) HCW.out).mono ?_); rintro e Z2 ⟨he, ⟨hd⟩⟩; exact ⟨he, hd⟩))
  go_wp2
  go_ret2
  exact ⟨by first | rfl | (simp only [i64_w]; done) | (simp only [i64_w]; rfl) | (simp [*]; done), by repeat (first | exact HB.out | apply pw_below_drewN | apply below_alloc)⟩

set_option maxHeartbeats 4000000 in
set_option maxRecDepth 100000 in
theorem ref25a (g : Nat) (B0 : Option Addr) (d0 : Nat) (s0_0 : List S73) (B1 : Option Addr) (d1 : Nat) (s0_1 : List S77) (B2 : Option Addr) (d2 : Nat) (s0_2 : List S66) (n a1_1 a1_2 a1_3 : Int) (a1_5 : ByteArray) (A1_6 : Option Addr) (c1_6 : Nat) (l1_6 : List Int) (a1_7 : Bool) (A2 : Option Addr) (c2 : Nat) (l2 : List Int) (w : World) (hP : PA w g B0 d0 s0_0 B1 d1 s0_1 B2 d2 s0_2) (hr2 : Kd.C (Kd.int .i64) w A2 l2.length l2) (hc2 : l2.length ≤ c2) (t : Int) (ht : rd l2 0 = t) (hL : 1 ≤ l2.length) (c0 : (t == 0) = true) :
    Calls Tryd.prog 35 #[.pointer (some ⟨g, 0, none⟩), .agg #[.int .i64 25, .int .i64 a1_1, .int .i64 a1_2, .int .i64 a1_3, .int .i64 n, .string a1_5, .slice A1_6 l1_6.length c1_6, .bool a1_7], .slice A2 l2.length c2] w fun e w' => e = .returned (.tuple #[.int .i64 (-1), .bool (true)]) ∧ Below w.heap.size w w' := by
  have HWA : Aside0 (hallmarkref04_wants.f 1 25 = some ([], (-1), false)) := ⟨by decide⟩
  obtain ⟨ad2, e2, hl0⟩ := Kd.at_int hr2 0 (by omega) (by omega)
  subst e2
  rw [ht, show (0 : Int).toNat = 0 from rfl, Addr.add_zero'] at hl0
  have i0 : (0 < l2.length) = True := eq_true (by omega)
  have i0b : ((0 : Int) < (l2.length : Int)) = True := eq_true (by omega)
  have Ahl0 := Aside0.mk hl0
  clear hl0
  clear ht hL
  obtain ⟨W1, hW1⟩ : ∃ W1, w.alloc (.cells #[.int .i64 25, .int .i64 a1_1, .int .i64 a1_2, .int .i64 a1_3, .int .i64 n, .string a1_5, .slice A1_6 l1_6.length c1_6, .bool a1_7] 33) = W1 := ⟨_, rfl⟩
  have hb1 : Below w.heap.size w W1 := by rw [← hW1]; exact below_alloc (Below.refl _ _) _
  have hB1 : W1.heap[w.heap.size]? = some (.cells #[.int .i64 25, .int .i64 a1_1, .int .i64 a1_2, .int .i64 a1_3, .int .i64 n, .string a1_5, .slice A1_6 l1_6.length c1_6, .bool a1_7] 33 (0, 0)) := by rw [← hW1]; exact heap_alloc_new w _
  have HB1 := Aside0.mk hB1
  have HP1 := Aside0.mk hP
  have HR1 := Aside0.mk hr2
  have HC := Aside0.mk hc2
  have HBW := Aside0.mk hb1
  have o0 : W1.cell? ⟨w.heap.size, 0, none⟩ = some (.int .i64 25) := (blk_cell hB1 0).trans rfl
  clear hP hr2 hc2 hb1 hB1
  go_enter Tryd.func35, Tryd.ntmps35
  go_wp2_with (first | (go_at_call 44; (with_reducible refine (hallmarkref04_wants.calls 1 25 ([]) ((-1)) false W1 HWA.out).mono ?_); rintro e W2 ⟨vw, rfl, hvw, hbw⟩; obtain ⟨Aw, cw, rfl, hcw, hAw⟩ := Kd.R_reads hvw; have HAW := Aside0.mk hAw; have HCW := Aside0.mk hcw; have HB := Aside0.mk (below_step HBW.out hbw); have HBO := Aside0.mk (blk_below HB1.out hbw); clear hvw hbw hAw hcw HBW HB1 o0; have HP := Aside0.mk (HP1.out.below HB.out); have HR := Aside0.mk (Kd.C_below HR1.out HB.out); have o0 : W2.cell? ⟨w.heap.size, 0, none⟩ = some (.int .i64 25) := (blk_cell HBO.out 0).trans rfl; have o4 : W2.cell? ⟨w.heap.size, 4, none⟩ = some (.int .i64 n) := (blk_cell HBO.out 4).trans rfl; have o5 : W2.cell? ⟨w.heap.size, 5, none⟩ = some (.string a1_5) := (blk_cell HBO.out 5).trans rfl; have p0 : W2.cell? ⟨g, 0, none⟩ = some (.slice B0 s0_0.length d0) := (blk_cell HP.out.b 0).trans rfl; have p1 : W2.cell? ⟨g, 1, none⟩ = some (.slice B1 s0_1.length d1) := (blk_cell HP.out.b 1).trans rfl; have p2 : W2.cell? ⟨g, 2, none⟩ = some (.slice B2 s0_2.length d2) := (blk_cell HP.out.b 2).trans rfl))
  have y0 := (HB.out.cell (World.block_lt_of_cell? w _ Ahl0.out)).trans Ahl0.out
  go_quiet (fail)
  go_wp2
  go_ret2
  exact ⟨by first | rfl | (simp only [i64_w]; done) | (simp only [i64_w]; rfl) | (simp [*]; done), by repeat (first | exact HB.out | apply pw_below_drewN | apply below_alloc)⟩

set_option maxHeartbeats 4000000 in
set_option maxRecDepth 100000 in
theorem ref25b (g : Nat) (B0 : Option Addr) (d0 : Nat) (s0_0 : List S73) (B1 : Option Addr) (d1 : Nat) (s0_1 : List S77) (B2 : Option Addr) (d2 : Nat) (s0_2 : List S66) (n a1_1 a1_2 a1_3 : Int) (a1_5 : ByteArray) (A1_6 : Option Addr) (c1_6 : Nat) (l1_6 : List Int) (a1_7 : Bool) (A2 : Option Addr) (c2 : Nat) (l2 : List Int) (w : World) (hP : PA w g B0 d0 s0_0 B1 d1 s0_1 B2 d2 s0_2) (hr2 : Kd.C (Kd.int .i64) w A2 l2.length l2) (hc2 : l2.length ≤ c2) (t : Int) (ht : rd l2 0 = t) (hL : 1 ≤ l2.length) (c0 : (t == 0) = false) (b1 : Bool) (c1 : (t == 2) = b1) :
    Calls Tryd.prog 35 #[.pointer (some ⟨g, 0, none⟩), .agg #[.int .i64 25, .int .i64 a1_1, .int .i64 a1_2, .int .i64 a1_3, .int .i64 n, .string a1_5, .slice A1_6 l1_6.length c1_6, .bool a1_7], .slice A2 l2.length c2] w fun e w' => e = .returned (.tuple #[.int .i64 (-1), .bool (b1)]) ∧ Below w.heap.size w w' := by
  have HWA : Aside0 (hallmarkref04_wants.f 1 25 = some ([], (-1), false)) := ⟨by decide⟩
  obtain ⟨ad2, e2, hl0⟩ := Kd.at_int hr2 0 (by omega) (by omega)
  subst e2
  rw [ht, show (0 : Int).toNat = 0 from rfl, Addr.add_zero'] at hl0
  have i0 : (0 < l2.length) = True := eq_true (by omega)
  have i0b : ((0 : Int) < (l2.length : Int)) = True := eq_true (by omega)
  have Ahl0 := Aside0.mk hl0
  clear hl0
  clear ht hL
  obtain ⟨W1, hW1⟩ : ∃ W1, w.alloc (.cells #[.int .i64 25, .int .i64 a1_1, .int .i64 a1_2, .int .i64 a1_3, .int .i64 n, .string a1_5, .slice A1_6 l1_6.length c1_6, .bool a1_7] 33) = W1 := ⟨_, rfl⟩
  have hb1 : Below w.heap.size w W1 := by rw [← hW1]; exact below_alloc (Below.refl _ _) _
  have hB1 : W1.heap[w.heap.size]? = some (.cells #[.int .i64 25, .int .i64 a1_1, .int .i64 a1_2, .int .i64 a1_3, .int .i64 n, .string a1_5, .slice A1_6 l1_6.length c1_6, .bool a1_7] 33 (0, 0)) := by rw [← hW1]; exact heap_alloc_new w _
  have HB1 := Aside0.mk hB1
  have HP1 := Aside0.mk hP
  have HR1 := Aside0.mk hr2
  have HC := Aside0.mk hc2
  have HBW := Aside0.mk hb1
  have o0 : W1.cell? ⟨w.heap.size, 0, none⟩ = some (.int .i64 25) := (blk_cell hB1 0).trans rfl
  clear hP hr2 hc2 hb1 hB1
  go_enter Tryd.func35, Tryd.ntmps35
  go_wp2_with (first | (go_at_call 44; (with_reducible refine (hallmarkref04_wants.calls 1 25 ([]) ((-1)) false W1 HWA.out).mono ?_); rintro e W2 ⟨vw, rfl, hvw, hbw⟩; obtain ⟨Aw, cw, rfl, hcw, hAw⟩ := Kd.R_reads hvw; have HAW := Aside0.mk hAw; have HCW := Aside0.mk hcw; have HB := Aside0.mk (below_step HBW.out hbw); have HBO := Aside0.mk (blk_below HB1.out hbw); clear hvw hbw hAw hcw HBW HB1 o0; have HP := Aside0.mk (HP1.out.below HB.out); have HR := Aside0.mk (Kd.C_below HR1.out HB.out); have o0 : W2.cell? ⟨w.heap.size, 0, none⟩ = some (.int .i64 25) := (blk_cell HBO.out 0).trans rfl; have o4 : W2.cell? ⟨w.heap.size, 4, none⟩ = some (.int .i64 n) := (blk_cell HBO.out 4).trans rfl; have o5 : W2.cell? ⟨w.heap.size, 5, none⟩ = some (.string a1_5) := (blk_cell HBO.out 5).trans rfl; have p0 : W2.cell? ⟨g, 0, none⟩ = some (.slice B0 s0_0.length d0) := (blk_cell HP.out.b 0).trans rfl; have p1 : W2.cell? ⟨g, 1, none⟩ = some (.slice B1 s0_1.length d1) := (blk_cell HP.out.b 1).trans rfl; have p2 : W2.cell? ⟨g, 2, none⟩ = some (.slice B2 s0_2.length d2) := (blk_cell HP.out.b 2).trans rfl))
  have y0 := (HB.out.cell (World.block_lt_of_cell? w _ Ahl0.out)).trans Ahl0.out
  go_quiet (fail)
  go_wp2
  go_ret2
  exact ⟨by first | rfl | (simp only [i64_w]; done) | (simp only [i64_w]; rfl) | (simp [*]; done), by repeat (first | exact HB.out | apply pw_below_drewN | apply below_alloc)⟩

set_option maxHeartbeats 4000000 in
set_option maxRecDepth 100000 in
theorem ref22a (g : Nat) (B0 : Option Addr) (d0 : Nat) (s0_0 : List S73) (B1 : Option Addr) (d1 : Nat) (s0_1 : List S77) (B2 : Option Addr) (d2 : Nat) (s0_2 : List S66) (n a1_1 a1_2 a1_3 : Int) (a1_5 : ByteArray) (A1_6 : Option Addr) (c1_6 : Nat) (l1_6 : List Int) (a1_7 : Bool) (A2 : Option Addr) (c2 : Nat) (l2 : List Int) (w : World) (hP : PA w g B0 d0 s0_0 B1 d1 s0_1 B2 d2 s0_2) (hr2 : Kd.C (Kd.int .i64) w A2 l2.length l2) (hc2 : l2.length ≤ c2) (t : Int) (ht : rd l2 0 = t) (hL : 1 ≤ l2.length) (c0 : decide (6 ≤ t) = false) :
    Calls Tryd.prog 35 #[.pointer (some ⟨g, 0, none⟩), .agg #[.int .i64 22, .int .i64 a1_1, .int .i64 a1_2, .int .i64 a1_3, .int .i64 n, .string a1_5, .slice A1_6 l1_6.length c1_6, .bool a1_7], .slice A2 l2.length c2] w fun e w' => e = .returned (.tuple #[.int .i64 (5), .bool (false)]) ∧ Below w.heap.size w w' := by
  have HWA : Aside0 (hallmarkref04_wants.f 1 22 = some ([], (-1), false)) := ⟨by decide⟩
  obtain ⟨ad2, e2, hl0⟩ := Kd.at_int hr2 0 (by omega) (by omega)
  subst e2
  rw [ht, show (0 : Int).toNat = 0 from rfl, Addr.add_zero'] at hl0
  have i0 : (0 < l2.length) = True := eq_true (by omega)
  have i0b : ((0 : Int) < (l2.length : Int)) = True := eq_true (by omega)
  have Ahl0 := Aside0.mk hl0
  clear hl0
  clear ht hL
  obtain ⟨W1, hW1⟩ : ∃ W1, w.alloc (.cells #[.int .i64 22, .int .i64 a1_1, .int .i64 a1_2, .int .i64 a1_3, .int .i64 n, .string a1_5, .slice A1_6 l1_6.length c1_6, .bool a1_7] 33) = W1 := ⟨_, rfl⟩
  have hb1 : Below w.heap.size w W1 := by rw [← hW1]; exact below_alloc (Below.refl _ _) _
  have hB1 : W1.heap[w.heap.size]? = some (.cells #[.int .i64 22, .int .i64 a1_1, .int .i64 a1_2, .int .i64 a1_3, .int .i64 n, .string a1_5, .slice A1_6 l1_6.length c1_6, .bool a1_7] 33 (0, 0)) := by rw [← hW1]; exact heap_alloc_new w _
  have HB1 := Aside0.mk hB1
  have HP1 := Aside0.mk hP
  have HR1 := Aside0.mk hr2
  have HC := Aside0.mk hc2
  have HBW := Aside0.mk hb1
  have o0 : W1.cell? ⟨w.heap.size, 0, none⟩ = some (.int .i64 22) := (blk_cell hB1 0).trans rfl
  clear hP hr2 hc2 hb1 hB1
  go_enter Tryd.func35, Tryd.ntmps35
  go_wp2_with (first | (go_at_call 44; (with_reducible refine (hallmarkref04_wants.calls 1 22 ([]) ((-1)) false W1 HWA.out).mono ?_); rintro e W2 ⟨vw, rfl, hvw, hbw⟩; obtain ⟨Aw, cw, rfl, hcw, hAw⟩ := Kd.R_reads hvw; have HAW := Aside0.mk hAw; have HCW := Aside0.mk hcw; have HB := Aside0.mk (below_step HBW.out hbw); have HBO := Aside0.mk (blk_below HB1.out hbw); clear hvw hbw hAw hcw HBW HB1 o0; have HP := Aside0.mk (HP1.out.below HB.out); have HR := Aside0.mk (Kd.C_below HR1.out HB.out); have o0 : W2.cell? ⟨w.heap.size, 0, none⟩ = some (.int .i64 22) := (blk_cell HBO.out 0).trans rfl; have o4 : W2.cell? ⟨w.heap.size, 4, none⟩ = some (.int .i64 n) := (blk_cell HBO.out 4).trans rfl; have o5 : W2.cell? ⟨w.heap.size, 5, none⟩ = some (.string a1_5) := (blk_cell HBO.out 5).trans rfl; have p0 : W2.cell? ⟨g, 0, none⟩ = some (.slice B0 s0_0.length d0) := (blk_cell HP.out.b 0).trans rfl; have p1 : W2.cell? ⟨g, 1, none⟩ = some (.slice B1 s0_1.length d1) := (blk_cell HP.out.b 1).trans rfl; have p2 : W2.cell? ⟨g, 2, none⟩ = some (.slice B2 s0_2.length d2) := (blk_cell HP.out.b 2).trans rfl))
  have y0 := (HB.out.cell (World.block_lt_of_cell? w _ Ahl0.out)).trans Ahl0.out
  go_quiet (fail)
  go_wp2
  go_ret2
  exact ⟨by first | rfl | (simp only [i64_w]; done) | (simp only [i64_w]; rfl) | (simp [*]; done), by repeat (first | exact HB.out | apply pw_below_drewN | apply below_alloc)⟩

set_option maxHeartbeats 4000000 in
set_option maxRecDepth 100000 in
theorem ref22b (g : Nat) (B0 : Option Addr) (d0 : Nat) (s0_0 : List S73) (B1 : Option Addr) (d1 : Nat) (s0_1 : List S77) (B2 : Option Addr) (d2 : Nat) (s0_2 : List S66) (n a1_1 a1_2 a1_3 : Int) (a1_5 : ByteArray) (A1_6 : Option Addr) (c1_6 : Nat) (l1_6 : List Int) (a1_7 : Bool) (A2 : Option Addr) (c2 : Nat) (l2 : List Int) (w : World) (hP : PA w g B0 d0 s0_0 B1 d1 s0_1 B2 d2 s0_2) (hr2 : Kd.C (Kd.int .i64) w A2 l2.length l2) (hc2 : l2.length ≤ c2) (u : Int) (ht : rd l2 0 = u + 6) (hL : 1 ≤ l2.length) (hu : -9223372036854775808 ≤ u ∧ u ≤ 9223372036854775807) (h0 : 0 ≤ u) (b1 : Bool) (c3 : decide (u < (s0_1.length : Int)) = b1) :
    Calls Tryd.prog 35 #[.pointer (some ⟨g, 0, none⟩), .agg #[.int .i64 22, .int .i64 a1_1, .int .i64 a1_2, .int .i64 a1_3, .int .i64 n, .string a1_5, .slice A1_6 l1_6.length c1_6, .bool a1_7], .slice A2 l2.length c2] w fun e w' => e = .returned (.tuple #[.int .i64 (5), .bool (b1)]) ∧ Below w.heap.size w w' := by
  have HWA : Aside0 (hallmarkref04_wants.f 1 22 = some ([], (-1), false)) := ⟨by decide⟩
  obtain ⟨ad2, e2, hl0⟩ := Kd.at_int hr2 0 (by omega) (by omega)
  subst e2
  rw [ht, show (0 : Int).toNat = 0 from rfl, Addr.add_zero'] at hl0
  have i0 : (0 < l2.length) = True := eq_true (by omega)
  have i0b : ((0 : Int) < (l2.length : Int)) = True := eq_true (by omega)
  have c0 := decide_eq_true (show (6 : Int) ≤ u + 6 by omega)
  have c0b := decide_eq_false (show ¬ u + 6 < 6 by omega)
  have c1 : wrap64 u = u := by unfold wrap64; omega
  have Ahl0 := Aside0.mk hl0
  clear hl0
  clear ht hL hu h0
  obtain ⟨W1, hW1⟩ : ∃ W1, w.alloc (.cells #[.int .i64 22, .int .i64 a1_1, .int .i64 a1_2, .int .i64 a1_3, .int .i64 n, .string a1_5, .slice A1_6 l1_6.length c1_6, .bool a1_7] 33) = W1 := ⟨_, rfl⟩
  have hb1 : Below w.heap.size w W1 := by rw [← hW1]; exact below_alloc (Below.refl _ _) _
  have hB1 : W1.heap[w.heap.size]? = some (.cells #[.int .i64 22, .int .i64 a1_1, .int .i64 a1_2, .int .i64 a1_3, .int .i64 n, .string a1_5, .slice A1_6 l1_6.length c1_6, .bool a1_7] 33 (0, 0)) := by rw [← hW1]; exact heap_alloc_new w _
  have HB1 := Aside0.mk hB1
  have HP1 := Aside0.mk hP
  have HR1 := Aside0.mk hr2
  have HC := Aside0.mk hc2
  have HBW := Aside0.mk hb1
  have o0 : W1.cell? ⟨w.heap.size, 0, none⟩ = some (.int .i64 22) := (blk_cell hB1 0).trans rfl
  clear hP hr2 hc2 hb1 hB1
  go_enter Tryd.func35, Tryd.ntmps35
  go_wp2_with (first | (go_at_call 44; (with_reducible refine (hallmarkref04_wants.calls 1 22 ([]) ((-1)) false W1 HWA.out).mono ?_); rintro e W2 ⟨vw, rfl, hvw, hbw⟩; obtain ⟨Aw, cw, rfl, hcw, hAw⟩ := Kd.R_reads hvw; have HAW := Aside0.mk hAw; have HCW := Aside0.mk hcw; have HB := Aside0.mk (below_step HBW.out hbw); have HBO := Aside0.mk (blk_below HB1.out hbw); clear hvw hbw hAw hcw HBW HB1 o0; have HP := Aside0.mk (HP1.out.below HB.out); have HR := Aside0.mk (Kd.C_below HR1.out HB.out); have o0 : W2.cell? ⟨w.heap.size, 0, none⟩ = some (.int .i64 22) := (blk_cell HBO.out 0).trans rfl; have o4 : W2.cell? ⟨w.heap.size, 4, none⟩ = some (.int .i64 n) := (blk_cell HBO.out 4).trans rfl; have o5 : W2.cell? ⟨w.heap.size, 5, none⟩ = some (.string a1_5) := (blk_cell HBO.out 5).trans rfl; have p0 : W2.cell? ⟨g, 0, none⟩ = some (.slice B0 s0_0.length d0) := (blk_cell HP.out.b 0).trans rfl; have p1 : W2.cell? ⟨g, 1, none⟩ = some (.slice B1 s0_1.length d1) := (blk_cell HP.out.b 1).trans rfl; have p2 : W2.cell? ⟨g, 2, none⟩ = some (.slice B2 s0_2.length d2) := (blk_cell HP.out.b 2).trans rfl))
  have y0 := (HB.out.cell (World.block_lt_of_cell? w _ Ahl0.out)).trans Ahl0.out
  have c1b := i64_w u
  rw [c1] at c1b
  go_quiet (fail)
  go_wp2
  go_ret2
  exact ⟨by first | rfl | (simp only [i64_w]; done) | (simp only [i64_w]; rfl) | (simp [*]; done), by repeat (first | exact HB.out | apply pw_below_drewN | apply below_alloc)⟩

set_option maxHeartbeats 4000000 in
set_option maxRecDepth 100000 in
theorem ref9a (g : Nat) (B0 : Option Addr) (d0 : Nat) (s0_0 : List S73) (B1 : Option Addr) (d1 : Nat) (s0_1 : List S77) (B2 : Option Addr) (d2 : Nat) (s0_2 : List S66) (n a1_1 a1_2 a1_3 : Int) (a1_5 : ByteArray) (A1_6 : Option Addr) (c1_6 : Nat) (l1_6 : List Int) (a1_7 : Bool) (A2 : Option Addr) (c2 : Nat) (l2 : List Int) (w : World) (hP : PA w g B0 d0 s0_0 B1 d1 s0_1 B2 d2 s0_2) (hr2 : Kd.C (Kd.int .i64) w A2 l2.length l2) (hc2 : l2.length ≤ c2) (c0 : decide (n < 0) = true) :
    Calls Tryd.prog 35 #[.pointer (some ⟨g, 0, none⟩), .agg #[.int .i64 9, .int .i64 a1_1, .int .i64 a1_2, .int .i64 a1_3, .int .i64 n, .string a1_5, .slice A1_6 l1_6.length c1_6, .bool a1_7], .slice A2 l2.length c2] w fun e w' => e = .returned (.tuple #[.int .i64 (-1), .bool (false)]) ∧ Below w.heap.size w w' := by
  have HWA : Aside0 (hallmarkref04_wants.f 1 9 = some ([], (-1), false)) := ⟨by decide⟩
  obtain ⟨W1, hW1⟩ : ∃ W1, w.alloc (.cells #[.int .i64 9, .int .i64 a1_1, .int .i64 a1_2, .int .i64 a1_3, .int .i64 n, .string a1_5, .slice A1_6 l1_6.length c1_6, .bool a1_7] 33) = W1 := ⟨_, rfl⟩
  have hb1 : Below w.heap.size w W1 := by rw [← hW1]; exact below_alloc (Below.refl _ _) _
  have hB1 : W1.heap[w.heap.size]? = some (.cells #[.int .i64 9, .int .i64 a1_1, .int .i64 a1_2, .int .i64 a1_3, .int .i64 n, .string a1_5, .slice A1_6 l1_6.length c1_6, .bool a1_7] 33 (0, 0)) := by rw [← hW1]; exact heap_alloc_new w _
  have HB1 := Aside0.mk hB1
  have HP1 := Aside0.mk hP
  have HR1 := Aside0.mk hr2
  have HC := Aside0.mk hc2
  have HBW := Aside0.mk hb1
  have o0 : W1.cell? ⟨w.heap.size, 0, none⟩ = some (.int .i64 9) := (blk_cell hB1 0).trans rfl
  clear hP hr2 hc2 hb1 hB1
  go_enter Tryd.func35, Tryd.ntmps35
  go_wp2_with (first | (go_at_call 44; (with_reducible refine (hallmarkref04_wants.calls 1 9 ([]) ((-1)) false W1 HWA.out).mono ?_); rintro e W2 ⟨vw, rfl, hvw, hbw⟩; obtain ⟨Aw, cw, rfl, hcw, hAw⟩ := Kd.R_reads hvw; have HAW := Aside0.mk hAw; have HCW := Aside0.mk hcw; have HB := Aside0.mk (below_step HBW.out hbw); have HBO := Aside0.mk (blk_below HB1.out hbw); clear hvw hbw hAw hcw HBW HB1 o0; have HP := Aside0.mk (HP1.out.below HB.out); have HR := Aside0.mk (Kd.C_below HR1.out HB.out); have o0 : W2.cell? ⟨w.heap.size, 0, none⟩ = some (.int .i64 9) := (blk_cell HBO.out 0).trans rfl; have o4 : W2.cell? ⟨w.heap.size, 4, none⟩ = some (.int .i64 n) := (blk_cell HBO.out 4).trans rfl; have o5 : W2.cell? ⟨w.heap.size, 5, none⟩ = some (.string a1_5) := (blk_cell HBO.out 5).trans rfl; have p0 : W2.cell? ⟨g, 0, none⟩ = some (.slice B0 s0_0.length d0) := (blk_cell HP.out.b 0).trans rfl; have p1 : W2.cell? ⟨g, 1, none⟩ = some (.slice B1 s0_1.length d1) := (blk_cell HP.out.b 1).trans rfl; have p2 : W2.cell? ⟨g, 2, none⟩ = some (.slice B2 s0_2.length d2) := (blk_cell HP.out.b 2).trans rfl))
  go_quiet (fail)
  go_wp2
  go_ret2
  exact ⟨by first | rfl | (simp only [i64_w]; done) | (simp only [i64_w]; rfl) | (simp [*]; done), by repeat (first | exact HB.out | apply pw_below_drewN | apply below_alloc)⟩

set_option maxHeartbeats 4000000 in
set_option maxRecDepth 100000 in
theorem ref9b (g : Nat) (B0 : Option Addr) (d0 : Nat) (s0_0 : List S73) (B1 : Option Addr) (d1 : Nat) (s0_1 : List S77) (B2 : Option Addr) (d2 : Nat) (s0_2 : List S66) (n a1_1 a1_2 a1_3 : Int) (a1_5 : ByteArray) (A1_6 : Option Addr) (c1_6 : Nat) (l1_6 : List Int) (a1_7 : Bool) (A2 : Option Addr) (c2 : Nat) (l2 : List Int) (w : World) (hP : PA w g B0 d0 s0_0 B1 d1 s0_1 B2 d2 s0_2) (hr2 : Kd.C (Kd.int .i64) w A2 l2.length l2) (hc2 : l2.length ≤ c2) (c0 : decide (n < 0) = false) (c3 : decide ((s0_1.length : Int) ≤ n) = true) :
    Calls Tryd.prog 35 #[.pointer (some ⟨g, 0, none⟩), .agg #[.int .i64 9, .int .i64 a1_1, .int .i64 a1_2, .int .i64 a1_3, .int .i64 n, .string a1_5, .slice A1_6 l1_6.length c1_6, .bool a1_7], .slice A2 l2.length c2] w fun e w' => e = .returned (.tuple #[.int .i64 (-1), .bool (false)]) ∧ Below w.heap.size w w' := by
  have HWA : Aside0 (hallmarkref04_wants.f 1 9 = some ([], (-1), false)) := ⟨by decide⟩
  obtain ⟨W1, hW1⟩ : ∃ W1, w.alloc (.cells #[.int .i64 9, .int .i64 a1_1, .int .i64 a1_2, .int .i64 a1_3, .int .i64 n, .string a1_5, .slice A1_6 l1_6.length c1_6, .bool a1_7] 33) = W1 := ⟨_, rfl⟩
  have hb1 : Below w.heap.size w W1 := by rw [← hW1]; exact below_alloc (Below.refl _ _) _
  have hB1 : W1.heap[w.heap.size]? = some (.cells #[.int .i64 9, .int .i64 a1_1, .int .i64 a1_2, .int .i64 a1_3, .int .i64 n, .string a1_5, .slice A1_6 l1_6.length c1_6, .bool a1_7] 33 (0, 0)) := by rw [← hW1]; exact heap_alloc_new w _
  have HB1 := Aside0.mk hB1
  have HP1 := Aside0.mk hP
  have HR1 := Aside0.mk hr2
  have HC := Aside0.mk hc2
  have HBW := Aside0.mk hb1
  have o0 : W1.cell? ⟨w.heap.size, 0, none⟩ = some (.int .i64 9) := (blk_cell hB1 0).trans rfl
  clear hP hr2 hc2 hb1 hB1
  go_enter Tryd.func35, Tryd.ntmps35
  go_wp2_with (first | (go_at_call 44; (with_reducible refine (hallmarkref04_wants.calls 1 9 ([]) ((-1)) false W1 HWA.out).mono ?_); rintro e W2 ⟨vw, rfl, hvw, hbw⟩; obtain ⟨Aw, cw, rfl, hcw, hAw⟩ := Kd.R_reads hvw; have HAW := Aside0.mk hAw; have HCW := Aside0.mk hcw; have HB := Aside0.mk (below_step HBW.out hbw); have HBO := Aside0.mk (blk_below HB1.out hbw); clear hvw hbw hAw hcw HBW HB1 o0; have HP := Aside0.mk (HP1.out.below HB.out); have HR := Aside0.mk (Kd.C_below HR1.out HB.out); have o0 : W2.cell? ⟨w.heap.size, 0, none⟩ = some (.int .i64 9) := (blk_cell HBO.out 0).trans rfl; have o4 : W2.cell? ⟨w.heap.size, 4, none⟩ = some (.int .i64 n) := (blk_cell HBO.out 4).trans rfl; have o5 : W2.cell? ⟨w.heap.size, 5, none⟩ = some (.string a1_5) := (blk_cell HBO.out 5).trans rfl; have p0 : W2.cell? ⟨g, 0, none⟩ = some (.slice B0 s0_0.length d0) := (blk_cell HP.out.b 0).trans rfl; have p1 : W2.cell? ⟨g, 1, none⟩ = some (.slice B1 s0_1.length d1) := (blk_cell HP.out.b 1).trans rfl; have p2 : W2.cell? ⟨g, 2, none⟩ = some (.slice B2 s0_2.length d2) := (blk_cell HP.out.b 2).trans rfl))
  go_quiet (fail)
  go_wp2
  go_ret2
  exact ⟨by first | rfl | (simp only [i64_w]; done) | (simp only [i64_w]; rfl) | (simp [*]; done), by repeat (first | exact HB.out | apply pw_below_drewN | apply below_alloc)⟩

set_option maxHeartbeats 4000000 in
set_option maxRecDepth 100000 in
theorem ref9 (g : Nat) (B0 : Option Addr) (d0 : Nat) (s0_0 : List S73) (B1 : Option Addr) (d1 : Nat) (s0_1 : List S77) (B2 : Option Addr) (d2 : Nat) (s0_2 : List S66) (n a1_1 a1_2 a1_3 : Int) (a1_5 : ByteArray) (A1_6 : Option Addr) (c1_6 : Nat) (l1_6 : List Int) (a1_7 : Bool) (A2 : Option Addr) (c2 : Nat) (l2 : List Int) (w : World) (hP : PA w g B0 d0 s0_0 B1 d1 s0_1 B2 d2 s0_2) (hr2 : Kd.C (Kd.int .i64) w A2 l2.length l2) (hc2 : l2.length ≤ c2) (hN : 0 ≤ n ∧ n < (s0_1.length : Int)) :
    Calls Tryd.prog 35 #[.pointer (some ⟨g, 0, none⟩), .agg #[.int .i64 9, .int .i64 a1_1, .int .i64 a1_2, .int .i64 a1_3, .int .i64 n, .string a1_5, .slice A1_6 l1_6.length c1_6, .bool a1_7], .slice A2 l2.length c2] w fun e w' => e = .returned (.tuple #[.int .i64 (wrap64 (6 + n)), .bool (decide (l2 = (rd_T77 s0_1 n).f0))]) ∧ Below w.heap.size w w' := by
  have HWA : Aside0 (hallmarkref04_wants.f 1 9 = some ([], (-1), false)) := ⟨by decide⟩
  obtain ⟨m, rfl⟩ := Int.eq_ofNat_of_zero_le hN.1
  obtain ⟨ad, Af, cf, Ag, cg, eB, hx0, hx1, hl0, hg0, hl1, hg1⟩ := at_T77 hP.r1 (m : Int) (by omega) hN.2
  subst eB
  rw [Int.toNat_natCast] at hx0 hx1
  have c0 := decide_eq_false (show ¬ (m : Int) < 0 by omega)
  have c3 := decide_eq_false (show ¬ (s0_1.length : Int) ≤ (m : Int) by omega)
  have c3n := decide_eq_false (show ¬ s0_1.length ≤ m by omega)
  have j1 : ((m : Int) < (s0_1.length : Int)) = True := eq_true hN.2
  have j2 : (m < s0_1.length) = True := eq_true (by omega)
  clear hx1 hl1 hg1 hN
  have Ahx0 := Aside0.mk hx0
  clear hx0
  have Ahl0 := Aside0.mk hl0
  clear hl0
  have Ahg0 := Aside0.mk hg0
  clear hg0
  obtain ⟨W1, hW1⟩ : ∃ W1, w.alloc (.cells #[.int .i64 9, .int .i64 a1_1, .int .i64 a1_2, .int .i64 a1_3, .int .i64 (m : Int), .string a1_5, .slice A1_6 l1_6.length c1_6, .bool a1_7] 33) = W1 := ⟨_, rfl⟩
  have hb1 : Below w.heap.size w W1 := by rw [← hW1]; exact below_alloc (Below.refl _ _) _
  have hB1 : W1.heap[w.heap.size]? = some (.cells #[.int .i64 9, .int .i64 a1_1, .int .i64 a1_2, .int .i64 a1_3, .int .i64 (m : Int), .string a1_5, .slice A1_6 l1_6.length c1_6, .bool a1_7] 33 (0, 0)) := by rw [← hW1]; exact heap_alloc_new w _
  have HB1 := Aside0.mk hB1
  have HP1 := Aside0.mk hP
  have HR1 := Aside0.mk hr2
  have HC := Aside0.mk hc2
  have HBW := Aside0.mk hb1
  have o0 : W1.cell? ⟨w.heap.size, 0, none⟩ = some (.int .i64 9) := (blk_cell hB1 0).trans rfl
  clear hP hr2 hc2 hb1 hB1
  go_enter Tryd.func35, Tryd.ntmps35
  go_wp2_with (first | (go_at_call 44; (with_reducible refine (hallmarkref04_wants.calls 1 9 ([]) ((-1)) false W1 HWA.out).mono ?_); rintro e W2 ⟨vw, rfl, hvw, hbw⟩; obtain ⟨Aw, cw, rfl, hcw, hAw⟩ := Kd.R_reads hvw; have HAW := Aside0.mk hAw; have HCW := Aside0.mk hcw; have HB := Aside0.mk (below_step HBW.out hbw); have HBO := Aside0.mk (blk_below HB1.out hbw); clear hvw hbw hAw hcw HBW HB1 o0; have HP := Aside0.mk (HP1.out.below HB.out); have HR := Aside0.mk (Kd.C_below HR1.out HB.out); have o0 : W2.cell? ⟨w.heap.size, 0, none⟩ = some (.int .i64 9) := (blk_cell HBO.out 0).trans rfl; have o4 : W2.cell? ⟨w.heap.size, 4, none⟩ = some (.int .i64 (m : Int)) := (blk_cell HBO.out 4).trans rfl; have o5 : W2.cell? ⟨w.heap.size, 5, none⟩ = some (.string a1_5) := (blk_cell HBO.out 5).trans rfl; have p0 : W2.cell? ⟨g, 0, none⟩ = some (.slice B0 s0_0.length d0) := (blk_cell HP.out.b 0).trans rfl; have p1 : W2.cell? ⟨g, 1, none⟩ = some (.slice (some ad) s0_1.length d1) := (blk_cell HP.out.b 1).trans rfl; have p2 : W2.cell? ⟨g, 2, none⟩ = some (.slice B2 s0_2.length d2) := (blk_cell HP.out.b 2).trans rfl))
  have x0 := (HB.out.cell (World.block_lt_of_cell? w _ Ahx0.out)).trans Ahx0.out
  go_quiet (fail)
  go_wp2
  go_quiet ((go_at_call 20; (first | refine Calls.quiet_of (v := .bool (decide (l2 = (rd_T77 s0_1 (m : Int)).f0))) ?_ | refine quiet_sum (v := .bool (decide (l2 = (rd_T77 s0_1 (m : Int)).f0))) ?_ | refine quiet_sum2 (v := .bool (decide (l2 = (rd_T77 s0_1 (m : Int)).f0))) ?_); (with_reducible refine (ints_calls A2 c2 l2 _ _ (rd_T77 s0_1 (m : Int)).f0 _ rfl _ (Kd.C_drewN HR.out _) HC.out (Kd.C_drewN (Kd.C_below Ahg0.out HB.out) _) Ahl0.out).mono ?_); rintro e Z2 ⟨he, ⟨hd⟩⟩; exact ⟨he, hd⟩))
  go_wp2
  go_ret2
  exact ⟨by first | rfl | (simp only [i64_w]; done) | (simp only [i64_w]; rfl) | (simp [*]; done), by repeat (first | exact HB.out | apply pw_below_drewN | apply below_alloc)⟩

set_option maxHeartbeats 4000000 in
set_option maxRecDepth 100000 in
theorem ref10a (g : Nat) (B0 : Option Addr) (d0 : Nat) (s0_0 : List S73) (B1 : Option Addr) (d1 : Nat) (s0_1 : List S77) (B2 : Option Addr) (d2 : Nat) (s0_2 : List S66) (n a1_1 a1_2 a1_3 : Int) (a1_5 : ByteArray) (A1_6 : Option Addr) (c1_6 : Nat) (l1_6 : List Int) (a1_7 : Bool) (A2 : Option Addr) (c2 : Nat) (l2 : List Int) (w : World) (hP : PA w g B0 d0 s0_0 B1 d1 s0_1 B2 d2 s0_2) (hr2 : Kd.C (Kd.int .i64) w A2 l2.length l2) (hc2 : l2.length ≤ c2) (t : Int) (ht : rd l2 0 = t) (hL : 1 ≤ l2.length) (c0 : decide (t < 6) = true) :
    Calls Tryd.prog 35 #[.pointer (some ⟨g, 0, none⟩), .agg #[.int .i64 10, .int .i64 a1_1, .int .i64 a1_2, .int .i64 a1_3, .int .i64 n, .string a1_5, .slice A1_6 l1_6.length c1_6, .bool a1_7], .slice A2 l2.length c2] w fun e w' => e = .returned (.tuple #[.int .i64 (-1), .bool (false)]) ∧ Below w.heap.size w w' := by
  have HWA : Aside0 (hallmarkref04_wants.f 1 10 = some ([], (-1), false)) := ⟨by decide⟩
  obtain ⟨ad2, e2, hl0⟩ := Kd.at_int hr2 0 (by omega) (by omega)
  subst e2
  rw [ht, show (0 : Int).toNat = 0 from rfl, Addr.add_zero'] at hl0
  have i0 : (0 < l2.length) = True := eq_true (by omega)
  have i0b : ((0 : Int) < (l2.length : Int)) = True := eq_true (by omega)
  have Ahl0 := Aside0.mk hl0
  clear hl0
  clear ht hL
  obtain ⟨W1, hW1⟩ : ∃ W1, w.alloc (.cells #[.int .i64 10, .int .i64 a1_1, .int .i64 a1_2, .int .i64 a1_3, .int .i64 n, .string a1_5, .slice A1_6 l1_6.length c1_6, .bool a1_7] 33) = W1 := ⟨_, rfl⟩
  have hb1 : Below w.heap.size w W1 := by rw [← hW1]; exact below_alloc (Below.refl _ _) _
  have hB1 : W1.heap[w.heap.size]? = some (.cells #[.int .i64 10, .int .i64 a1_1, .int .i64 a1_2, .int .i64 a1_3, .int .i64 n, .string a1_5, .slice A1_6 l1_6.length c1_6, .bool a1_7] 33 (0, 0)) := by rw [← hW1]; exact heap_alloc_new w _
  have HB1 := Aside0.mk hB1
  have HP1 := Aside0.mk hP
  have HR1 := Aside0.mk hr2
  have HC := Aside0.mk hc2
  have HBW := Aside0.mk hb1
  have o0 : W1.cell? ⟨w.heap.size, 0, none⟩ = some (.int .i64 10) := (blk_cell hB1 0).trans rfl
  clear hP hr2 hc2 hb1 hB1
  go_enter Tryd.func35, Tryd.ntmps35
  go_wp2_with (first | (go_at_call 44; (with_reducible refine (hallmarkref04_wants.calls 1 10 ([]) ((-1)) false W1 HWA.out).mono ?_); rintro e W2 ⟨vw, rfl, hvw, hbw⟩; obtain ⟨Aw, cw, rfl, hcw, hAw⟩ := Kd.R_reads hvw; have HAW := Aside0.mk hAw; have HCW := Aside0.mk hcw; have HB := Aside0.mk (below_step HBW.out hbw); have HBO := Aside0.mk (blk_below HB1.out hbw); clear hvw hbw hAw hcw HBW HB1 o0; have HP := Aside0.mk (HP1.out.below HB.out); have HR := Aside0.mk (Kd.C_below HR1.out HB.out); have o0 : W2.cell? ⟨w.heap.size, 0, none⟩ = some (.int .i64 10) := (blk_cell HBO.out 0).trans rfl; have o4 : W2.cell? ⟨w.heap.size, 4, none⟩ = some (.int .i64 n) := (blk_cell HBO.out 4).trans rfl; have o5 : W2.cell? ⟨w.heap.size, 5, none⟩ = some (.string a1_5) := (blk_cell HBO.out 5).trans rfl; have p0 : W2.cell? ⟨g, 0, none⟩ = some (.slice B0 s0_0.length d0) := (blk_cell HP.out.b 0).trans rfl; have p1 : W2.cell? ⟨g, 1, none⟩ = some (.slice B1 s0_1.length d1) := (blk_cell HP.out.b 1).trans rfl; have p2 : W2.cell? ⟨g, 2, none⟩ = some (.slice B2 s0_2.length d2) := (blk_cell HP.out.b 2).trans rfl))
  have y0 := (HB.out.cell (World.block_lt_of_cell? w _ Ahl0.out)).trans Ahl0.out
  go_quiet (fail)
  go_wp2
  go_ret2
  exact ⟨by first | rfl | (simp only [i64_w]; done) | (simp only [i64_w]; rfl) | (simp [*]; done), by repeat (first | exact HB.out | apply pw_below_drewN | apply below_alloc)⟩

set_option maxHeartbeats 4000000 in
set_option maxRecDepth 100000 in
theorem ref10b (g : Nat) (B0 : Option Addr) (d0 : Nat) (s0_0 : List S73) (B1 : Option Addr) (d1 : Nat) (s0_1 : List S77) (B2 : Option Addr) (d2 : Nat) (s0_2 : List S66) (n a1_1 a1_2 a1_3 : Int) (a1_5 : ByteArray) (A1_6 : Option Addr) (c1_6 : Nat) (l1_6 : List Int) (a1_7 : Bool) (A2 : Option Addr) (c2 : Nat) (l2 : List Int) (w : World) (hP : PA w g B0 d0 s0_0 B1 d1 s0_1 B2 d2 s0_2) (hr2 : Kd.C (Kd.int .i64) w A2 l2.length l2) (hc2 : l2.length ≤ c2) (u : Int) (ht : rd l2 0 = u + 6) (hL : 1 ≤ l2.length) (hu : -9223372036854775808 ≤ u ∧ u ≤ 9223372036854775807) (h0 : 0 ≤ u) (c3 : decide ((s0_1.length : Int) ≤ u) = true) :
    Calls Tryd.prog 35 #[.pointer (some ⟨g, 0, none⟩), .agg #[.int .i64 10, .int .i64 a1_1, .int .i64 a1_2, .int .i64 a1_3, .int .i64 n, .string a1_5, .slice A1_6 l1_6.length c1_6, .bool a1_7], .slice A2 l2.length c2] w fun e w' => e = .returned (.tuple #[.int .i64 (-1), .bool (false)]) ∧ Below w.heap.size w w' := by
  have HWA : Aside0 (hallmarkref04_wants.f 1 10 = some ([], (-1), false)) := ⟨by decide⟩
  obtain ⟨ad2, e2, hl0⟩ := Kd.at_int hr2 0 (by omega) (by omega)
  subst e2
  rw [ht, show (0 : Int).toNat = 0 from rfl, Addr.add_zero'] at hl0
  have i0 : (0 < l2.length) = True := eq_true (by omega)
  have i0b : ((0 : Int) < (l2.length : Int)) = True := eq_true (by omega)
  have c0 := decide_eq_true (show (6 : Int) ≤ u + 6 by omega)
  have c0b := decide_eq_false (show ¬ u + 6 < 6 by omega)
  have c1 : wrap64 u = u := by unfold wrap64; omega
  have Ahl0 := Aside0.mk hl0
  clear hl0
  clear ht hL hu h0
  obtain ⟨W1, hW1⟩ : ∃ W1, w.alloc (.cells #[.int .i64 10, .int .i64 a1_1, .int .i64 a1_2, .int .i64 a1_3, .int .i64 n, .string a1_5, .slice A1_6 l1_6.length c1_6, .bool a1_7] 33) = W1 := ⟨_, rfl⟩
  have hb1 : Below w.heap.size w W1 := by rw [← hW1]; exact below_alloc (Below.refl _ _) _
  have hB1 : W1.heap[w.heap.size]? = some (.cells #[.int .i64 10, .int .i64 a1_1, .int .i64 a1_2, .int .i64 a1_3, .int .i64 n, .string a1_5, .slice A1_6 l1_6.length c1_6, .bool a1_7] 33 (0, 0)) := by rw [← hW1]; exact heap_alloc_new w _
  have HB1 := Aside0.mk hB1
  have HP1 := Aside0.mk hP
  have HR1 := Aside0.mk hr2
  have HC := Aside0.mk hc2
  have HBW := Aside0.mk hb1
  have o0 : W1.cell? ⟨w.heap.size, 0, none⟩ = some (.int .i64 10) := (blk_cell hB1 0).trans rfl
  clear hP hr2 hc2 hb1 hB1
  go_enter Tryd.func35, Tryd.ntmps35
  go_wp2_with (first | (go_at_call 44; (with_reducible refine (hallmarkref04_wants.calls 1 10 ([]) ((-1)) false W1 HWA.out).mono ?_); rintro e W2 ⟨vw, rfl, hvw, hbw⟩; obtain ⟨Aw, cw, rfl, hcw, hAw⟩ := Kd.R_reads hvw; have HAW := Aside0.mk hAw; have HCW := Aside0.mk hcw; have HB := Aside0.mk (below_step HBW.out hbw); have HBO := Aside0.mk (blk_below HB1.out hbw); clear hvw hbw hAw hcw HBW HB1 o0; have HP := Aside0.mk (HP1.out.below HB.out); have HR := Aside0.mk (Kd.C_below HR1.out HB.out); have o0 : W2.cell? ⟨w.heap.size, 0, none⟩ = some (.int .i64 10) := (blk_cell HBO.out 0).trans rfl; have o4 : W2.cell? ⟨w.heap.size, 4, none⟩ = some (.int .i64 n) := (blk_cell HBO.out 4).trans rfl; have o5 : W2.cell? ⟨w.heap.size, 5, none⟩ = some (.string a1_5) := (blk_cell HBO.out 5).trans rfl; have p0 : W2.cell? ⟨g, 0, none⟩ = some (.slice B0 s0_0.length d0) := (blk_cell HP.out.b 0).trans rfl; have p1 : W2.cell? ⟨g, 1, none⟩ = some (.slice B1 s0_1.length d1) := (blk_cell HP.out.b 1).trans rfl; have p2 : W2.cell? ⟨g, 2, none⟩ = some (.slice B2 s0_2.length d2) := (blk_cell HP.out.b 2).trans rfl))
  have y0 := (HB.out.cell (World.block_lt_of_cell? w _ Ahl0.out)).trans Ahl0.out
  have c1b := i64_w u
  rw [c1] at c1b
  go_quiet (fail)
  go_wp2
  go_ret2
  exact ⟨by first | rfl | (simp only [i64_w]; done) | (simp only [i64_w]; rfl) | (simp [*]; done), by repeat (first | exact HB.out | apply pw_below_drewN | apply below_alloc)⟩

set_option maxHeartbeats 4000000 in
set_option maxRecDepth 100000 in
theorem ref11a (g : Nat) (B0 : Option Addr) (d0 : Nat) (s0_0 : List S73) (B1 : Option Addr) (d1 : Nat) (s0_1 : List S77) (B2 : Option Addr) (d2 : Nat) (s0_2 : List S66) (n a1_1 a1_2 a1_3 : Int) (a1_5 : ByteArray) (A1_6 : Option Addr) (c1_6 : Nat) (l1_6 : List Int) (a1_7 : Bool) (A2 : Option Addr) (c2 : Nat) (l2 : List Int) (w : World) (hP : PA w g B0 d0 s0_0 B1 d1 s0_1 B2 d2 s0_2) (hr2 : Kd.C (Kd.int .i64) w A2 l2.length l2) (hc2 : l2.length ≤ c2) (t : Int) (ht : rd l2 0 = t) (hL : 1 ≤ l2.length) (c0 : decide (t < 6) = true) :
    Calls Tryd.prog 35 #[.pointer (some ⟨g, 0, none⟩), .agg #[.int .i64 11, .int .i64 a1_1, .int .i64 a1_2, .int .i64 a1_3, .int .i64 n, .string a1_5, .slice A1_6 l1_6.length c1_6, .bool a1_7], .slice A2 l2.length c2] w fun e w' => e = .returned (.tuple #[.int .i64 (-1), .bool (false)]) ∧ Below w.heap.size w w' := by
  have HWA : Aside0 (hallmarkref04_wants.f 1 11 = some ([], (-1), false)) := ⟨by decide⟩
  obtain ⟨ad2, e2, hl0⟩ := Kd.at_int hr2 0 (by omega) (by omega)
  subst e2
  rw [ht, show (0 : Int).toNat = 0 from rfl, Addr.add_zero'] at hl0
  have i0 : (0 < l2.length) = True := eq_true (by omega)
  have i0b : ((0 : Int) < (l2.length : Int)) = True := eq_true (by omega)
  have Ahl0 := Aside0.mk hl0
  clear hl0
  clear ht hL
  obtain ⟨W1, hW1⟩ : ∃ W1, w.alloc (.cells #[.int .i64 11, .int .i64 a1_1, .int .i64 a1_2, .int .i64 a1_3, .int .i64 n, .string a1_5, .slice A1_6 l1_6.length c1_6, .bool a1_7] 33) = W1 := ⟨_, rfl⟩
  have hb1 : Below w.heap.size w W1 := by rw [← hW1]; exact below_alloc (Below.refl _ _) _
  have hB1 : W1.heap[w.heap.size]? = some (.cells #[.int .i64 11, .int .i64 a1_1, .int .i64 a1_2, .int .i64 a1_3, .int .i64 n, .string a1_5, .slice A1_6 l1_6.length c1_6, .bool a1_7] 33 (0, 0)) := by rw [← hW1]; exact heap_alloc_new w _
  have HB1 := Aside0.mk hB1
  have HP1 := Aside0.mk hP
  have HR1 := Aside0.mk hr2
  have HC := Aside0.mk hc2
  have HBW := Aside0.mk hb1
  have o0 : W1.cell? ⟨w.heap.size, 0, none⟩ = some (.int .i64 11) := (blk_cell hB1 0).trans rfl
  clear hP hr2 hc2 hb1 hB1
  go_enter Tryd.func35, Tryd.ntmps35
  go_wp2_with (first | (go_at_call 44; (with_reducible refine (hallmarkref04_wants.calls 1 11 ([]) ((-1)) false W1 HWA.out).mono ?_); rintro e W2 ⟨vw, rfl, hvw, hbw⟩; obtain ⟨Aw, cw, rfl, hcw, hAw⟩ := Kd.R_reads hvw; have HAW := Aside0.mk hAw; have HCW := Aside0.mk hcw; have HB := Aside0.mk (below_step HBW.out hbw); have HBO := Aside0.mk (blk_below HB1.out hbw); clear hvw hbw hAw hcw HBW HB1 o0; have HP := Aside0.mk (HP1.out.below HB.out); have HR := Aside0.mk (Kd.C_below HR1.out HB.out); have o0 : W2.cell? ⟨w.heap.size, 0, none⟩ = some (.int .i64 11) := (blk_cell HBO.out 0).trans rfl; have o4 : W2.cell? ⟨w.heap.size, 4, none⟩ = some (.int .i64 n) := (blk_cell HBO.out 4).trans rfl; have o5 : W2.cell? ⟨w.heap.size, 5, none⟩ = some (.string a1_5) := (blk_cell HBO.out 5).trans rfl; have p0 : W2.cell? ⟨g, 0, none⟩ = some (.slice B0 s0_0.length d0) := (blk_cell HP.out.b 0).trans rfl; have p1 : W2.cell? ⟨g, 1, none⟩ = some (.slice B1 s0_1.length d1) := (blk_cell HP.out.b 1).trans rfl; have p2 : W2.cell? ⟨g, 2, none⟩ = some (.slice B2 s0_2.length d2) := (blk_cell HP.out.b 2).trans rfl))
  have y0 := (HB.out.cell (World.block_lt_of_cell? w _ Ahl0.out)).trans Ahl0.out
  go_quiet (fail)
  go_wp2
  go_ret2
  exact ⟨by first | rfl | (simp only [i64_w]; done) | (simp only [i64_w]; rfl) | (simp [*]; done), by repeat (first | exact HB.out | apply pw_below_drewN | apply below_alloc)⟩

set_option maxHeartbeats 4000000 in
set_option maxRecDepth 100000 in
theorem ref11b (g : Nat) (B0 : Option Addr) (d0 : Nat) (s0_0 : List S73) (B1 : Option Addr) (d1 : Nat) (s0_1 : List S77) (B2 : Option Addr) (d2 : Nat) (s0_2 : List S66) (n a1_1 a1_2 a1_3 : Int) (a1_5 : ByteArray) (A1_6 : Option Addr) (c1_6 : Nat) (l1_6 : List Int) (a1_7 : Bool) (A2 : Option Addr) (c2 : Nat) (l2 : List Int) (w : World) (hP : PA w g B0 d0 s0_0 B1 d1 s0_1 B2 d2 s0_2) (hr2 : Kd.C (Kd.int .i64) w A2 l2.length l2) (hc2 : l2.length ≤ c2) (u : Int) (ht : rd l2 0 = u + 6) (hL : 1 ≤ l2.length) (hu : -9223372036854775808 ≤ u ∧ u ≤ 9223372036854775807) (h0 : 0 ≤ u) (c3 : decide ((s0_1.length : Int) ≤ u) = true) :
    Calls Tryd.prog 35 #[.pointer (some ⟨g, 0, none⟩), .agg #[.int .i64 11, .int .i64 a1_1, .int .i64 a1_2, .int .i64 a1_3, .int .i64 n, .string a1_5, .slice A1_6 l1_6.length c1_6, .bool a1_7], .slice A2 l2.length c2] w fun e w' => e = .returned (.tuple #[.int .i64 (-1), .bool (false)]) ∧ Below w.heap.size w w' := by
  have HWA : Aside0 (hallmarkref04_wants.f 1 11 = some ([], (-1), false)) := ⟨by decide⟩
  obtain ⟨ad2, e2, hl0⟩ := Kd.at_int hr2 0 (by omega) (by omega)
  subst e2
  rw [ht, show (0 : Int).toNat = 0 from rfl, Addr.add_zero'] at hl0
  have i0 : (0 < l2.length) = True := eq_true (by omega)
  have i0b : ((0 : Int) < (l2.length : Int)) = True := eq_true (by omega)
  have c0 := decide_eq_true (show (6 : Int) ≤ u + 6 by omega)
  have c0b := decide_eq_false (show ¬ u + 6 < 6 by omega)
  have c1 : wrap64 u = u := by unfold wrap64; omega
  have Ahl0 := Aside0.mk hl0
  clear hl0
  clear ht hL hu h0
  obtain ⟨W1, hW1⟩ : ∃ W1, w.alloc (.cells #[.int .i64 11, .int .i64 a1_1, .int .i64 a1_2, .int .i64 a1_3, .int .i64 n, .string a1_5, .slice A1_6 l1_6.length c1_6, .bool a1_7] 33) = W1 := ⟨_, rfl⟩
  have hb1 : Below w.heap.size w W1 := by rw [← hW1]; exact below_alloc (Below.refl _ _) _
  have hB1 : W1.heap[w.heap.size]? = some (.cells #[.int .i64 11, .int .i64 a1_1, .int .i64 a1_2, .int .i64 a1_3, .int .i64 n, .string a1_5, .slice A1_6 l1_6.length c1_6, .bool a1_7] 33 (0, 0)) := by rw [← hW1]; exact heap_alloc_new w _
  have HB1 := Aside0.mk hB1
  have HP1 := Aside0.mk hP
  have HR1 := Aside0.mk hr2
  have HC := Aside0.mk hc2
  have HBW := Aside0.mk hb1
  have o0 : W1.cell? ⟨w.heap.size, 0, none⟩ = some (.int .i64 11) := (blk_cell hB1 0).trans rfl
  clear hP hr2 hc2 hb1 hB1
  go_enter Tryd.func35, Tryd.ntmps35
  go_wp2_with (first | (go_at_call 44; (with_reducible refine (hallmarkref04_wants.calls 1 11 ([]) ((-1)) false W1 HWA.out).mono ?_); rintro e W2 ⟨vw, rfl, hvw, hbw⟩; obtain ⟨Aw, cw, rfl, hcw, hAw⟩ := Kd.R_reads hvw; have HAW := Aside0.mk hAw; have HCW := Aside0.mk hcw; have HB := Aside0.mk (below_step HBW.out hbw); have HBO := Aside0.mk (blk_below HB1.out hbw); clear hvw hbw hAw hcw HBW HB1 o0; have HP := Aside0.mk (HP1.out.below HB.out); have HR := Aside0.mk (Kd.C_below HR1.out HB.out); have o0 : W2.cell? ⟨w.heap.size, 0, none⟩ = some (.int .i64 11) := (blk_cell HBO.out 0).trans rfl; have o4 : W2.cell? ⟨w.heap.size, 4, none⟩ = some (.int .i64 n) := (blk_cell HBO.out 4).trans rfl; have o5 : W2.cell? ⟨w.heap.size, 5, none⟩ = some (.string a1_5) := (blk_cell HBO.out 5).trans rfl; have p0 : W2.cell? ⟨g, 0, none⟩ = some (.slice B0 s0_0.length d0) := (blk_cell HP.out.b 0).trans rfl; have p1 : W2.cell? ⟨g, 1, none⟩ = some (.slice B1 s0_1.length d1) := (blk_cell HP.out.b 1).trans rfl; have p2 : W2.cell? ⟨g, 2, none⟩ = some (.slice B2 s0_2.length d2) := (blk_cell HP.out.b 2).trans rfl))
  have y0 := (HB.out.cell (World.block_lt_of_cell? w _ Ahl0.out)).trans Ahl0.out
  have c1b := i64_w u
  rw [c1] at c1b
  go_quiet (fail)
  go_wp2
  go_ret2
  exact ⟨by first | rfl | (simp only [i64_w]; done) | (simp only [i64_w]; rfl) | (simp [*]; done), by repeat (first | exact HB.out | apply pw_below_drewN | apply below_alloc)⟩

set_option maxHeartbeats 4000000 in
set_option maxRecDepth 100000 in
theorem ref10c (g : Nat) (B0 : Option Addr) (d0 : Nat) (s0_0 : List S73) (B1 : Option Addr) (d1 : Nat) (s0_1 : List S77) (B2 : Option Addr) (d2 : Nat) (s0_2 : List S66) (n a1_1 a1_2 a1_3 : Int) (a1_5 : ByteArray) (A1_6 : Option Addr) (c1_6 : Nat) (l1_6 : List Int) (a1_7 : Bool) (A2 : Option Addr) (c2 : Nat) (l2 : List Int) (w : World) (hP : PA w g B0 d0 s0_0 B1 d1 s0_1 B2 d2 s0_2) (hr2 : Kd.C (Kd.int .i64) w A2 l2.length l2) (hc2 : l2.length ≤ c2) (u : Nat) (ht : rd l2 0 = (u : Int) + 6) (hu : u < s0_1.length) (hu2 : u + 6 ≤ 9223372036854775807) (hL : 1 ≤ l2.length) (c0 : decide (n < 0) = true) :
    Calls Tryd.prog 35 #[.pointer (some ⟨g, 0, none⟩), .agg #[.int .i64 10, .int .i64 a1_1, .int .i64 a1_2, .int .i64 a1_3, .int .i64 n, .string a1_5, .slice A1_6 l1_6.length c1_6, .bool a1_7], .slice A2 l2.length c2] w fun e w' => e = .returned (.tuple #[.int .i64 (-1), .bool (false)]) ∧ Below w.heap.size w w' := by
  have HWA : Aside0 (hallmarkref04_wants.f 1 10 = some ([], (-1), false)) := ⟨by decide⟩
  obtain ⟨ad2, e2, hl0⟩ := Kd.at_int hr2 0 (by omega) (by omega)
  subst e2
  rw [ht, show (0 : Int).toNat = 0 from rfl, Addr.add_zero'] at hl0
  have i0 : (0 < l2.length) = True := eq_true (by omega)
  have i0b : ((0 : Int) < (l2.length : Int)) = True := eq_true (by omega)
  obtain ⟨ad, Af, cf, Ag, cg, eB, hx0, hx1, hm0, hg0, hm1, hg1⟩ := at_T77 hP.r1 (u : Int) (by omega) (by omega)
  subst eB
  rw [Int.toNat_natCast] at hx0 hx1
  have k0 := decide_eq_false (show ¬ (u : Int) + 6 < 6 by omega)
  have k3 := decide_eq_false (show ¬ (s0_1.length : Int) ≤ (u : Int) by omega)
  have k3n := decide_eq_false (show ¬ s0_1.length ≤ u by omega)
  have k4 : ((u : Int) < (s0_1.length : Int)) = True := eq_true (by omega)
  have k5 : (u < s0_1.length) = True := eq_true (by omega)
  have k6 : (0 ≤ (u : Int)) = True := eq_true (by omega)
  have Ak1 := Aside0.mk (show wrap64 (u : Int) = (u : Int) by unfold wrap64; omega)
  clear hx1 hm1 hg1 ht hL hu hu2
  have Ahl0 := Aside0.mk hl0
  clear hl0
  have Ahx0 := Aside0.mk hx0
  clear hx0
  clear hm0 hg0
  obtain ⟨W1, hW1⟩ : ∃ W1, w.alloc (.cells #[.int .i64 10, .int .i64 a1_1, .int .i64 a1_2, .int .i64 a1_3, .int .i64 n, .string a1_5, .slice A1_6 l1_6.length c1_6, .bool a1_7] 33) = W1 := ⟨_, rfl⟩
  have hb1 : Below w.heap.size w W1 := by rw [← hW1]; exact below_alloc (Below.refl _ _) _
  have hB1 : W1.heap[w.heap.size]? = some (.cells #[.int .i64 10, .int .i64 a1_1, .int .i64 a1_2, .int .i64 a1_3, .int .i64 n, .string a1_5, .slice A1_6 l1_6.length c1_6, .bool a1_7] 33 (0, 0)) := by rw [← hW1]; exact heap_alloc_new w _
  have HB1 := Aside0.mk hB1
  have HP1 := Aside0.mk hP
  have HR1 := Aside0.mk hr2
  have HC := Aside0.mk hc2
  have HBW := Aside0.mk hb1
  have o0 : W1.cell? ⟨w.heap.size, 0, none⟩ = some (.int .i64 10) := (blk_cell hB1 0).trans rfl
  clear hP hr2 hc2 hb1 hB1
  go_enter Tryd.func35, Tryd.ntmps35
  go_wp2_with (first | (go_at_call 44; (with_reducible refine (hallmarkref04_wants.calls 1 10 ([]) ((-1)) false W1 HWA.out).mono ?_); rintro e W2 ⟨vw, rfl, hvw, hbw⟩; obtain ⟨Aw, cw, rfl, hcw, hAw⟩ := Kd.R_reads hvw; have HAW := Aside0.mk hAw; have HCW := Aside0.mk hcw; have HB := Aside0.mk (below_step HBW.out hbw); have HBO := Aside0.mk (blk_below HB1.out hbw); clear hvw hbw hAw hcw HBW HB1 o0; have HP := Aside0.mk (HP1.out.below HB.out); have HR := Aside0.mk (Kd.C_below HR1.out HB.out); have o0 : W2.cell? ⟨w.heap.size, 0, none⟩ = some (.int .i64 10) := (blk_cell HBO.out 0).trans rfl; have o4 : W2.cell? ⟨w.heap.size, 4, none⟩ = some (.int .i64 n) := (blk_cell HBO.out 4).trans rfl; have o5 : W2.cell? ⟨w.heap.size, 5, none⟩ = some (.string a1_5) := (blk_cell HBO.out 5).trans rfl; have p0 : W2.cell? ⟨g, 0, none⟩ = some (.slice B0 s0_0.length d0) := (blk_cell HP.out.b 0).trans rfl; have p1 : W2.cell? ⟨g, 1, none⟩ = some (.slice (some ad) s0_1.length d1) := (blk_cell HP.out.b 1).trans rfl; have p2 : W2.cell? ⟨g, 2, none⟩ = some (.slice B2 s0_2.length d2) := (blk_cell HP.out.b 2).trans rfl))
  have y0 := (HB.out.cell (World.block_lt_of_cell? w _ Ahl0.out)).trans Ahl0.out
  have x0 := (HB.out.cell (World.block_lt_of_cell? w _ Ahx0.out)).trans Ahx0.out
  have k1 := Ak1.out
  have k1b := i64_w (u : Int)
  rw [k1] at k1b
  go_quiet (fail)
  go_wp2
  go_quiet (fail)
  go_wp2
  go_ret2
  exact ⟨by first | rfl | (simp only [i64_w]; done) | (simp only [i64_w]; rfl) | (simp [*]; done), by repeat (first | exact HB.out | apply pw_below_drewN | apply below_alloc)⟩

set_option maxHeartbeats 4000000 in
set_option maxRecDepth 100000 in
theorem ref10d (g : Nat) (B0 : Option Addr) (d0 : Nat) (s0_0 : List S73) (B1 : Option Addr) (d1 : Nat) (s0_1 : List S77) (B2 : Option Addr) (d2 : Nat) (s0_2 : List S66) (n a1_1 a1_2 a1_3 : Int) (a1_5 : ByteArray) (A1_6 : Option Addr) (c1_6 : Nat) (l1_6 : List Int) (a1_7 : Bool) (A2 : Option Addr) (c2 : Nat) (l2 : List Int) (w : World) (hP : PA w g B0 d0 s0_0 B1 d1 s0_1 B2 d2 s0_2) (hr2 : Kd.C (Kd.int .i64) w A2 l2.length l2) (hc2 : l2.length ≤ c2) (u : Nat) (ht : rd l2 0 = (u : Int) + 6) (hu : u < s0_1.length) (hu2 : u + 6 ≤ 9223372036854775807) (hL : 1 ≤ l2.length) (c0 : decide (n < 0) = false) (c3 : decide (((rd_T77 s0_1 (u : Int)).f0.length : Int) ≤ n) = true) :
    Calls Tryd.prog 35 #[.pointer (some ⟨g, 0, none⟩), .agg #[.int .i64 10, .int .i64 a1_1, .int .i64 a1_2, .int .i64 a1_3, .int .i64 n, .string a1_5, .slice A1_6 l1_6.length c1_6, .bool a1_7], .slice A2 l2.length c2] w fun e w' => e = .returned (.tuple #[.int .i64 (-1), .bool (false)]) ∧ Below w.heap.size w w' := by
  have HWA : Aside0 (hallmarkref04_wants.f 1 10 = some ([], (-1), false)) := ⟨by decide⟩
  obtain ⟨ad2, e2, hl0⟩ := Kd.at_int hr2 0 (by omega) (by omega)
  subst e2
  rw [ht, show (0 : Int).toNat = 0 from rfl, Addr.add_zero'] at hl0
  have i0 : (0 < l2.length) = True := eq_true (by omega)
  have i0b : ((0 : Int) < (l2.length : Int)) = True := eq_true (by omega)
  obtain ⟨ad, Af, cf, Ag, cg, eB, hx0, hx1, hm0, hg0, hm1, hg1⟩ := at_T77 hP.r1 (u : Int) (by omega) (by omega)
  subst eB
  rw [Int.toNat_natCast] at hx0 hx1
  have k0 := decide_eq_false (show ¬ (u : Int) + 6 < 6 by omega)
  have k3 := decide_eq_false (show ¬ (s0_1.length : Int) ≤ (u : Int) by omega)
  have k3n := decide_eq_false (show ¬ s0_1.length ≤ u by omega)
  have k4 : ((u : Int) < (s0_1.length : Int)) = True := eq_true (by omega)
  have k5 : (u < s0_1.length) = True := eq_true (by omega)
  have k6 : (0 ≤ (u : Int)) = True := eq_true (by omega)
  have Ak1 := Aside0.mk (show wrap64 (u : Int) = (u : Int) by unfold wrap64; omega)
  clear hx1 hm1 hg1 ht hL hu hu2
  have Ahl0 := Aside0.mk hl0
  clear hl0
  have Ahx0 := Aside0.mk hx0
  clear hx0
  clear hm0 hg0
  obtain ⟨W1, hW1⟩ : ∃ W1, w.alloc (.cells #[.int .i64 10, .int .i64 a1_1, .int .i64 a1_2, .int .i64 a1_3, .int .i64 n, .string a1_5, .slice A1_6 l1_6.length c1_6, .bool a1_7] 33) = W1 := ⟨_, rfl⟩
  have hb1 : Below w.heap.size w W1 := by rw [← hW1]; exact below_alloc (Below.refl _ _) _
  have hB1 : W1.heap[w.heap.size]? = some (.cells #[.int .i64 10, .int .i64 a1_1, .int .i64 a1_2, .int .i64 a1_3, .int .i64 n, .string a1_5, .slice A1_6 l1_6.length c1_6, .bool a1_7] 33 (0, 0)) := by rw [← hW1]; exact heap_alloc_new w _
  have HB1 := Aside0.mk hB1
  have HP1 := Aside0.mk hP
  have HR1 := Aside0.mk hr2
  have HC := Aside0.mk hc2
  have HBW := Aside0.mk hb1
  have o0 : W1.cell? ⟨w.heap.size, 0, none⟩ = some (.int .i64 10) := (blk_cell hB1 0).trans rfl
  clear hP hr2 hc2 hb1 hB1
  go_enter Tryd.func35, Tryd.ntmps35
  go_wp2_with (first | (go_at_call 44; (with_reducible refine (hallmarkref04_wants.calls 1 10 ([]) ((-1)) false W1 HWA.out).mono ?_); rintro e W2 ⟨vw, rfl, hvw, hbw⟩; obtain ⟨Aw, cw, rfl, hcw, hAw⟩ := Kd.R_reads hvw; have HAW := Aside0.mk hAw; have HCW := Aside0.mk hcw; have HB := Aside0.mk (below_step HBW.out hbw); have HBO := Aside0.mk (blk_below HB1.out hbw); clear hvw hbw hAw hcw HBW HB1 o0; have HP := Aside0.mk (HP1.out.below HB.out); have HR := Aside0.mk (Kd.C_below HR1.out HB.out); have o0 : W2.cell? ⟨w.heap.size, 0, none⟩ = some (.int .i64 10) := (blk_cell HBO.out 0).trans rfl; have o4 : W2.cell? ⟨w.heap.size, 4, none⟩ = some (.int .i64 n) := (blk_cell HBO.out 4).trans rfl; have o5 : W2.cell? ⟨w.heap.size, 5, none⟩ = some (.string a1_5) := (blk_cell HBO.out 5).trans rfl; have p0 : W2.cell? ⟨g, 0, none⟩ = some (.slice B0 s0_0.length d0) := (blk_cell HP.out.b 0).trans rfl; have p1 : W2.cell? ⟨g, 1, none⟩ = some (.slice (some ad) s0_1.length d1) := (blk_cell HP.out.b 1).trans rfl; have p2 : W2.cell? ⟨g, 2, none⟩ = some (.slice B2 s0_2.length d2) := (blk_cell HP.out.b 2).trans rfl))
  have y0 := (HB.out.cell (World.block_lt_of_cell? w _ Ahl0.out)).trans Ahl0.out
  have x0 := (HB.out.cell (World.block_lt_of_cell? w _ Ahx0.out)).trans Ahx0.out
  have k1 := Ak1.out
  have k1b := i64_w (u : Int)
  rw [k1] at k1b
  go_quiet (fail)
  go_wp2
  go_quiet (fail)
  go_wp2
  go_ret2
  exact ⟨by first | rfl | (simp only [i64_w]; done) | (simp only [i64_w]; rfl) | (simp [*]; done), by repeat (first | exact HB.out | apply pw_below_drewN | apply below_alloc)⟩

set_option maxHeartbeats 4000000 in
set_option maxRecDepth 100000 in
theorem ref11c (g : Nat) (B0 : Option Addr) (d0 : Nat) (s0_0 : List S73) (B1 : Option Addr) (d1 : Nat) (s0_1 : List S77) (B2 : Option Addr) (d2 : Nat) (s0_2 : List S66) (n a1_1 a1_2 a1_3 : Int) (a1_5 : ByteArray) (A1_6 : Option Addr) (c1_6 : Nat) (l1_6 : List Int) (a1_7 : Bool) (A2 : Option Addr) (c2 : Nat) (l2 : List Int) (w : World) (hP : PA w g B0 d0 s0_0 B1 d1 s0_1 B2 d2 s0_2) (hr2 : Kd.C (Kd.int .i64) w A2 l2.length l2) (hc2 : l2.length ≤ c2) (u : Nat) (ht : rd l2 0 = (u : Int) + 6) (hu : u < s0_1.length) (hu2 : u + 6 ≤ 9223372036854775807) (hL : 1 ≤ l2.length) (c0 : decide (n < 0) = true) :
    Calls Tryd.prog 35 #[.pointer (some ⟨g, 0, none⟩), .agg #[.int .i64 11, .int .i64 a1_1, .int .i64 a1_2, .int .i64 a1_3, .int .i64 n, .string a1_5, .slice A1_6 l1_6.length c1_6, .bool a1_7], .slice A2 l2.length c2] w fun e w' => e = .returned (.tuple #[.int .i64 (-1), .bool (false)]) ∧ Below w.heap.size w w' := by
  have HWA : Aside0 (hallmarkref04_wants.f 1 11 = some ([], (-1), false)) := ⟨by decide⟩
  obtain ⟨ad2, e2, hl0⟩ := Kd.at_int hr2 0 (by omega) (by omega)
  subst e2
  rw [ht, show (0 : Int).toNat = 0 from rfl, Addr.add_zero'] at hl0
  have i0 : (0 < l2.length) = True := eq_true (by omega)
  have i0b : ((0 : Int) < (l2.length : Int)) = True := eq_true (by omega)
  obtain ⟨ad, Af, cf, Ag, cg, eB, hx0, hx1, hm0, hg0, hm1, hg1⟩ := at_T77 hP.r1 (u : Int) (by omega) (by omega)
  subst eB
  rw [Int.toNat_natCast] at hx0 hx1
  have k0 := decide_eq_false (show ¬ (u : Int) + 6 < 6 by omega)
  have k3 := decide_eq_false (show ¬ (s0_1.length : Int) ≤ (u : Int) by omega)
  have k3n := decide_eq_false (show ¬ s0_1.length ≤ u by omega)
  have k4 : ((u : Int) < (s0_1.length : Int)) = True := eq_true (by omega)
  have k5 : (u < s0_1.length) = True := eq_true (by omega)
  have k6 : (0 ≤ (u : Int)) = True := eq_true (by omega)
  have Ak1 := Aside0.mk (show wrap64 (u : Int) = (u : Int) by unfold wrap64; omega)
  clear hx1 hm1 hg1 ht hL hu hu2
  have Ahl0 := Aside0.mk hl0
  clear hl0
  have Ahx0 := Aside0.mk hx0
  clear hx0
  clear hm0 hg0
  obtain ⟨W1, hW1⟩ : ∃ W1, w.alloc (.cells #[.int .i64 11, .int .i64 a1_1, .int .i64 a1_2, .int .i64 a1_3, .int .i64 n, .string a1_5, .slice A1_6 l1_6.length c1_6, .bool a1_7] 33) = W1 := ⟨_, rfl⟩
  have hb1 : Below w.heap.size w W1 := by rw [← hW1]; exact below_alloc (Below.refl _ _) _
  have hB1 : W1.heap[w.heap.size]? = some (.cells #[.int .i64 11, .int .i64 a1_1, .int .i64 a1_2, .int .i64 a1_3, .int .i64 n, .string a1_5, .slice A1_6 l1_6.length c1_6, .bool a1_7] 33 (0, 0)) := by rw [← hW1]; exact heap_alloc_new w _
  have HB1 := Aside0.mk hB1
  have HP1 := Aside0.mk hP
  have HR1 := Aside0.mk hr2
  have HC := Aside0.mk hc2
  have HBW := Aside0.mk hb1
  have o0 : W1.cell? ⟨w.heap.size, 0, none⟩ = some (.int .i64 11) := (blk_cell hB1 0).trans rfl
  clear hP hr2 hc2 hb1 hB1
  go_enter Tryd.func35, Tryd.ntmps35
  go_wp2_with (first | (go_at_call 44; (with_reducible refine (hallmarkref04_wants.calls 1 11 ([]) ((-1)) false W1 HWA.out).mono ?_); rintro e W2 ⟨vw, rfl, hvw, hbw⟩; obtain ⟨Aw, cw, rfl, hcw, hAw⟩ := Kd.R_reads hvw; have HAW := Aside0.mk hAw; have HCW := Aside0.mk hcw; have HB := Aside0.mk (below_step HBW.out hbw); have HBO := Aside0.mk (blk_below HB1.out hbw); clear hvw hbw hAw hcw HBW HB1 o0; have HP := Aside0.mk (HP1.out.below HB.out); have HR := Aside0.mk (Kd.C_below HR1.out HB.out); have o0 : W2.cell? ⟨w.heap.size, 0, none⟩ = some (.int .i64 11) := (blk_cell HBO.out 0).trans rfl; have o4 : W2.cell? ⟨w.heap.size, 4, none⟩ = some (.int .i64 n) := (blk_cell HBO.out 4).trans rfl; have o5 : W2.cell? ⟨w.heap.size, 5, none⟩ = some (.string a1_5) := (blk_cell HBO.out 5).trans rfl; have p0 : W2.cell? ⟨g, 0, none⟩ = some (.slice B0 s0_0.length d0) := (blk_cell HP.out.b 0).trans rfl; have p1 : W2.cell? ⟨g, 1, none⟩ = some (.slice (some ad) s0_1.length d1) := (blk_cell HP.out.b 1).trans rfl; have p2 : W2.cell? ⟨g, 2, none⟩ = some (.slice B2 s0_2.length d2) := (blk_cell HP.out.b 2).trans rfl))
  have y0 := (HB.out.cell (World.block_lt_of_cell? w _ Ahl0.out)).trans Ahl0.out
  have x0 := (HB.out.cell (World.block_lt_of_cell? w _ Ahx0.out)).trans Ahx0.out
  have k1 := Ak1.out
  have k1b := i64_w (u : Int)
  rw [k1] at k1b
  go_quiet (fail)
  go_wp2
  go_quiet (fail)
  go_wp2
  go_ret2
  exact ⟨by first | rfl | (simp only [i64_w]; done) | (simp only [i64_w]; rfl) | (simp [*]; done), by repeat (first | exact HB.out | apply pw_below_drewN | apply below_alloc)⟩

set_option maxHeartbeats 4000000 in
set_option maxRecDepth 100000 in
theorem ref11d (g : Nat) (B0 : Option Addr) (d0 : Nat) (s0_0 : List S73) (B1 : Option Addr) (d1 : Nat) (s0_1 : List S77) (B2 : Option Addr) (d2 : Nat) (s0_2 : List S66) (n a1_1 a1_2 a1_3 : Int) (a1_5 : ByteArray) (A1_6 : Option Addr) (c1_6 : Nat) (l1_6 : List Int) (a1_7 : Bool) (A2 : Option Addr) (c2 : Nat) (l2 : List Int) (w : World) (hP : PA w g B0 d0 s0_0 B1 d1 s0_1 B2 d2 s0_2) (hr2 : Kd.C (Kd.int .i64) w A2 l2.length l2) (hc2 : l2.length ≤ c2) (u : Nat) (ht : rd l2 0 = (u : Int) + 6) (hu : u < s0_1.length) (hu2 : u + 6 ≤ 9223372036854775807) (hL : 1 ≤ l2.length) (c0 : decide (n < 0) = false) (c3 : decide (((rd_T77 s0_1 (u : Int)).f0.length : Int) ≤ n) = true) :
    Calls Tryd.prog 35 #[.pointer (some ⟨g, 0, none⟩), .agg #[.int .i64 11, .int .i64 a1_1, .int .i64 a1_2, .int .i64 a1_3, .int .i64 n, .string a1_5, .slice A1_6 l1_6.length c1_6, .bool a1_7], .slice A2 l2.length c2] w fun e w' => e = .returned (.tuple #[.int .i64 (-1), .bool (false)]) ∧ Below w.heap.size w w' := by
  have HWA : Aside0 (hallmarkref04_wants.f 1 11 = some ([], (-1), false)) := ⟨by decide⟩
  obtain ⟨ad2, e2, hl0⟩ := Kd.at_int hr2 0 (by omega) (by omega)
  subst e2
  rw [ht, show (0 : Int).toNat = 0 from rfl, Addr.add_zero'] at hl0
  have i0 : (0 < l2.length) = True := eq_true (by omega)
  have i0b : ((0 : Int) < (l2.length : Int)) = True := eq_true (by omega)
  obtain ⟨ad, Af, cf, Ag, cg, eB, hx0, hx1, hm0, hg0, hm1, hg1⟩ := at_T77 hP.r1 (u : Int) (by omega) (by omega)
  subst eB
  rw [Int.toNat_natCast] at hx0 hx1
  have k0 := decide_eq_false (show ¬ (u : Int) + 6 < 6 by omega)
  have k3 := decide_eq_false (show ¬ (s0_1.length : Int) ≤ (u : Int) by omega)
  have k3n := decide_eq_false (show ¬ s0_1.length ≤ u by omega)
  have k4 : ((u : Int) < (s0_1.length : Int)) = True := eq_true (by omega)
  have k5 : (u < s0_1.length) = True := eq_true (by omega)
  have k6 : (0 ≤ (u : Int)) = True := eq_true (by omega)
  have Ak1 := Aside0.mk (show wrap64 (u : Int) = (u : Int) by unfold wrap64; omega)
  clear hx1 hm1 hg1 ht hL hu hu2
  have Ahl0 := Aside0.mk hl0
  clear hl0
  have Ahx0 := Aside0.mk hx0
  clear hx0
  clear hm0 hg0
  obtain ⟨W1, hW1⟩ : ∃ W1, w.alloc (.cells #[.int .i64 11, .int .i64 a1_1, .int .i64 a1_2, .int .i64 a1_3, .int .i64 n, .string a1_5, .slice A1_6 l1_6.length c1_6, .bool a1_7] 33) = W1 := ⟨_, rfl⟩
  have hb1 : Below w.heap.size w W1 := by rw [← hW1]; exact below_alloc (Below.refl _ _) _
  have hB1 : W1.heap[w.heap.size]? = some (.cells #[.int .i64 11, .int .i64 a1_1, .int .i64 a1_2, .int .i64 a1_3, .int .i64 n, .string a1_5, .slice A1_6 l1_6.length c1_6, .bool a1_7] 33 (0, 0)) := by rw [← hW1]; exact heap_alloc_new w _
  have HB1 := Aside0.mk hB1
  have HP1 := Aside0.mk hP
  have HR1 := Aside0.mk hr2
  have HC := Aside0.mk hc2
  have HBW := Aside0.mk hb1
  have o0 : W1.cell? ⟨w.heap.size, 0, none⟩ = some (.int .i64 11) := (blk_cell hB1 0).trans rfl
  clear hP hr2 hc2 hb1 hB1
  go_enter Tryd.func35, Tryd.ntmps35
  go_wp2_with (first | (go_at_call 44; (with_reducible refine (hallmarkref04_wants.calls 1 11 ([]) ((-1)) false W1 HWA.out).mono ?_); rintro e W2 ⟨vw, rfl, hvw, hbw⟩; obtain ⟨Aw, cw, rfl, hcw, hAw⟩ := Kd.R_reads hvw; have HAW := Aside0.mk hAw; have HCW := Aside0.mk hcw; have HB := Aside0.mk (below_step HBW.out hbw); have HBO := Aside0.mk (blk_below HB1.out hbw); clear hvw hbw hAw hcw HBW HB1 o0; have HP := Aside0.mk (HP1.out.below HB.out); have HR := Aside0.mk (Kd.C_below HR1.out HB.out); have o0 : W2.cell? ⟨w.heap.size, 0, none⟩ = some (.int .i64 11) := (blk_cell HBO.out 0).trans rfl; have o4 : W2.cell? ⟨w.heap.size, 4, none⟩ = some (.int .i64 n) := (blk_cell HBO.out 4).trans rfl; have o5 : W2.cell? ⟨w.heap.size, 5, none⟩ = some (.string a1_5) := (blk_cell HBO.out 5).trans rfl; have p0 : W2.cell? ⟨g, 0, none⟩ = some (.slice B0 s0_0.length d0) := (blk_cell HP.out.b 0).trans rfl; have p1 : W2.cell? ⟨g, 1, none⟩ = some (.slice (some ad) s0_1.length d1) := (blk_cell HP.out.b 1).trans rfl; have p2 : W2.cell? ⟨g, 2, none⟩ = some (.slice B2 s0_2.length d2) := (blk_cell HP.out.b 2).trans rfl))
  have y0 := (HB.out.cell (World.block_lt_of_cell? w _ Ahl0.out)).trans Ahl0.out
  have x0 := (HB.out.cell (World.block_lt_of_cell? w _ Ahx0.out)).trans Ahx0.out
  have k1 := Ak1.out
  have k1b := i64_w (u : Int)
  rw [k1] at k1b
  go_quiet (fail)
  go_wp2
  go_quiet (fail)
  go_wp2
  go_ret2
  exact ⟨by first | rfl | (simp only [i64_w]; done) | (simp only [i64_w]; rfl) | (simp [*]; done), by repeat (first | exact HB.out | apply pw_below_drewN | apply below_alloc)⟩

set_option maxHeartbeats 4000000 in
set_option maxRecDepth 100000 in
theorem ref10 (g : Nat) (B0 : Option Addr) (d0 : Nat) (s0_0 : List S73) (B1 : Option Addr) (d1 : Nat) (s0_1 : List S77) (B2 : Option Addr) (d2 : Nat) (s0_2 : List S66) (n a1_1 a1_2 a1_3 : Int) (a1_5 : ByteArray) (A1_6 : Option Addr) (c1_6 : Nat) (l1_6 : List Int) (a1_7 : Bool) (A2 : Option Addr) (c2 : Nat) (l2 : List Int) (w : World) (hP : PA w g B0 d0 s0_0 B1 d1 s0_1 B2 d2 s0_2) (hr2 : Kd.C (Kd.int .i64) w A2 l2.length l2) (hc2 : l2.length ≤ c2) (u : Nat) (ht : rd l2 0 = (u : Int) + 6) (hu : u < s0_1.length) (hu2 : u + 6 ≤ 9223372036854775807) (hL : 1 ≤ l2.length) (hN : 0 ≤ n ∧ n < ((rd_T77 s0_1 (u : Int)).f0.length : Int)) :
    Calls Tryd.prog 35 #[.pointer (some ⟨g, 0, none⟩), .agg #[.int .i64 10, .int .i64 a1_1, .int .i64 a1_2, .int .i64 a1_3, .int .i64 n, .string a1_5, .slice A1_6 l1_6.length c1_6, .bool a1_7], .slice A2 l2.length c2] w fun e w' => e = .returned (.tuple #[.int .i64 (rd (rd_T77 s0_1 (u : Int)).f0 n), .bool (true)]) ∧ Below w.heap.size w w' := by
  have HWA : Aside0 (hallmarkref04_wants.f 1 10 = some ([], (-1), false)) := ⟨by decide⟩
  obtain ⟨ad2, e2, hl0⟩ := Kd.at_int hr2 0 (by omega) (by omega)
  subst e2
  rw [ht, show (0 : Int).toNat = 0 from rfl, Addr.add_zero'] at hl0
  have i0 : (0 < l2.length) = True := eq_true (by omega)
  have i0b : ((0 : Int) < (l2.length : Int)) = True := eq_true (by omega)
  obtain ⟨ad, Af, cf, Ag, cg, eB, hx0, hx1, hm0, hg0, hm1, hg1⟩ := at_T77 hP.r1 (u : Int) (by omega) (by omega)
  subst eB
  rw [Int.toNat_natCast] at hx0 hx1
  have k0 := decide_eq_false (show ¬ (u : Int) + 6 < 6 by omega)
  have k3 := decide_eq_false (show ¬ (s0_1.length : Int) ≤ (u : Int) by omega)
  have k3n := decide_eq_false (show ¬ s0_1.length ≤ u by omega)
  have k4 : ((u : Int) < (s0_1.length : Int)) = True := eq_true (by omega)
  have k5 : (u < s0_1.length) = True := eq_true (by omega)
  have k6 : (0 ≤ (u : Int)) = True := eq_true (by omega)
  have Ak1 := Aside0.mk (show wrap64 (u : Int) = (u : Int) by unfold wrap64; omega)
  clear hx1 hm1 hg1 ht hL hu hu2
  obtain ⟨m, rfl⟩ := Int.eq_ofNat_of_zero_le hN.1
  have hm := hN.2
  obtain ⟨af, eF, hv⟩ := Kd.at_int hg0 (m : Int) (by omega) hm
  subst eF
  rw [Int.toNat_natCast] at hv
  have c0 := decide_eq_false (show ¬ (m : Int) < 0 by omega)
  have c3 := decide_eq_false (show ¬ ((rd_T77 s0_1 (u : Int)).f0.length : Int) ≤ (m : Int) by omega)
  have c3n := decide_eq_false (show ¬ (rd_T77 s0_1 (u : Int)).f0.length ≤ m by omega)
  have j1 : ((m : Int) < ((rd_T77 s0_1 (u : Int)).f0.length : Int)) = True := eq_true hm
  have j2 : (m < (rd_T77 s0_1 (u : Int)).f0.length) = True := eq_true (by omega)
  clear hm0 hg0 hm hN
  have Ahl0 := Aside0.mk hl0
  clear hl0
  have Ahx0 := Aside0.mk hx0
  clear hx0
  have Ahv := Aside0.mk hv
  clear hv
  obtain ⟨W1, hW1⟩ : ∃ W1, w.alloc (.cells #[.int .i64 10, .int .i64 a1_1, .int .i64 a1_2, .int .i64 a1_3, .int .i64 (m : Int), .string a1_5, .slice A1_6 l1_6.length c1_6, .bool a1_7] 33) = W1 := ⟨_, rfl⟩
  have hb1 : Below w.heap.size w W1 := by rw [← hW1]; exact below_alloc (Below.refl _ _) _
  have hB1 : W1.heap[w.heap.size]? = some (.cells #[.int .i64 10, .int .i64 a1_1, .int .i64 a1_2, .int .i64 a1_3, .int .i64 (m : Int), .string a1_5, .slice A1_6 l1_6.length c1_6, .bool a1_7] 33 (0, 0)) := by rw [← hW1]; exact heap_alloc_new w _
  have HB1 := Aside0.mk hB1
  have HP1 := Aside0.mk hP
  have HR1 := Aside0.mk hr2
  have HC := Aside0.mk hc2
  have HBW := Aside0.mk hb1
  have o0 : W1.cell? ⟨w.heap.size, 0, none⟩ = some (.int .i64 10) := (blk_cell hB1 0).trans rfl
  clear hP hr2 hc2 hb1 hB1
  go_enter Tryd.func35, Tryd.ntmps35
  go_wp2_with (first | (go_at_call 44; (with_reducible refine (hallmarkref04_wants.calls 1 10 ([]) ((-1)) false W1 HWA.out).mono ?_); rintro e W2 ⟨vw, rfl, hvw, hbw⟩; obtain ⟨Aw, cw, rfl, hcw, hAw⟩ := Kd.R_reads hvw; have HAW := Aside0.mk hAw; have HCW := Aside0.mk hcw; have HB := Aside0.mk (below_step HBW.out hbw); have HBO := Aside0.mk (blk_below HB1.out hbw); clear hvw hbw hAw hcw HBW HB1 o0; have HP := Aside0.mk (HP1.out.below HB.out); have HR := Aside0.mk (Kd.C_below HR1.out HB.out); have o0 : W2.cell? ⟨w.heap.size, 0, none⟩ = some (.int .i64 10) := (blk_cell HBO.out 0).trans rfl; have o4 : W2.cell? ⟨w.heap.size, 4, none⟩ = some (.int .i64 (m : Int)) := (blk_cell HBO.out 4).trans rfl; have o5 : W2.cell? ⟨w.heap.size, 5, none⟩ = some (.string a1_5) := (blk_cell HBO.out 5).trans rfl; have p0 : W2.cell? ⟨g, 0, none⟩ = some (.slice B0 s0_0.length d0) := (blk_cell HP.out.b 0).trans rfl; have p1 : W2.cell? ⟨g, 1, none⟩ = some (.slice (some ad) s0_1.length d1) := (blk_cell HP.out.b 1).trans rfl; have p2 : W2.cell? ⟨g, 2, none⟩ = some (.slice B2 s0_2.length d2) := (blk_cell HP.out.b 2).trans rfl))
  have y0 := (HB.out.cell (World.block_lt_of_cell? w _ Ahl0.out)).trans Ahl0.out
  have x0 := (HB.out.cell (World.block_lt_of_cell? w _ Ahx0.out)).trans Ahx0.out
  have v0 := (HB.out.cell (World.block_lt_of_cell? w _ Ahv.out)).trans Ahv.out
  have k1 := Ak1.out
  have k1b := i64_w (u : Int)
  rw [k1] at k1b
  go_quiet (fail)
  go_wp2
  go_quiet (fail)
  go_wp2
  go_ret2
  exact ⟨by first | rfl | (simp only [i64_w]; done) | (simp only [i64_w]; rfl) | (simp [*]; done), by repeat (first | exact HB.out | apply pw_below_drewN | apply below_alloc)⟩

set_option maxHeartbeats 4000000 in
set_option maxRecDepth 100000 in
theorem ref11 (g : Nat) (B0 : Option Addr) (d0 : Nat) (s0_0 : List S73) (B1 : Option Addr) (d1 : Nat) (s0_1 : List S77) (B2 : Option Addr) (d2 : Nat) (s0_2 : List S66) (n a1_1 a1_2 a1_3 : Int) (a1_5 : ByteArray) (A1_6 : Option Addr) (c1_6 : Nat) (l1_6 : List Int) (a1_7 : Bool) (A2 : Option Addr) (c2 : Nat) (l2 : List Int) (w : World) (hP : PA w g B0 d0 s0_0 B1 d1 s0_1 B2 d2 s0_2) (hr2 : Kd.C (Kd.int .i64) w A2 l2.length l2) (hc2 : l2.length ≤ c2) (u : Nat) (ht : rd l2 0 = (u : Int) + 6) (hu : u < s0_1.length) (hu2 : u + 6 ≤ 9223372036854775807) (hL : 2 ≤ l2.length) (t1 : Int) (ht1 : rd l2 1 = t1) (hN : 0 ≤ n ∧ n < ((rd_T77 s0_1 (u : Int)).f0.length : Int)) :
    Calls Tryd.prog 35 #[.pointer (some ⟨g, 0, none⟩), .agg #[.int .i64 11, .int .i64 a1_1, .int .i64 a1_2, .int .i64 a1_3, .int .i64 n, .string a1_5, .slice A1_6 l1_6.length c1_6, .bool a1_7], .slice A2 l2.length c2] w fun e w' => e = .returned (.tuple #[.int .i64 (-1), .bool (decide (t1 = rd (rd_T77 s0_1 (u : Int)).f0 n))]) ∧ Below w.heap.size w w' := by
  have HWA : Aside0 (hallmarkref04_wants.f 1 11 = some ([], (-1), false)) := ⟨by decide⟩
  obtain ⟨ad2, e2, hl0⟩ := Kd.at_int hr2 0 (by omega) (by omega)
  subst e2
  rw [ht, show (0 : Int).toNat = 0 from rfl, Addr.add_zero'] at hl0
  obtain ⟨ad3, e3, hl1⟩ := Kd.at_int hr2 1 (by omega) (by omega)
  obtain rfl : ad2 = ad3 := by injection e3
  rw [ht1, show (1 : Int).toNat = 1 from rfl] at hl1
  simp only [Go.Addr.add, Nat.reduceEqDiff, ↓reduceIte] at hl1
  have i0 : (0 < l2.length) = True := eq_true (by omega)
  have i0b : ((0 : Int) < (l2.length : Int)) = True := eq_true (by omega)
  have i1 : (1 < l2.length) = True := eq_true (by omega)
  have i1b : ((1 : Int) < (l2.length : Int)) = True := eq_true (by omega)
  obtain ⟨ad, Af, cf, Ag, cg, eB, hx0, hx1, hm0, hg0, hm1, hg1⟩ := at_T77 hP.r1 (u : Int) (by omega) (by omega)
  subst eB
  rw [Int.toNat_natCast] at hx0 hx1
  have k0 := decide_eq_false (show ¬ (u : Int) + 6 < 6 by omega)
  have k3 := decide_eq_false (show ¬ (s0_1.length : Int) ≤ (u : Int) by omega)
  have k3n := decide_eq_false (show ¬ s0_1.length ≤ u by omega)
  have k4 : ((u : Int) < (s0_1.length : Int)) = True := eq_true (by omega)
  have k5 : (u < s0_1.length) = True := eq_true (by omega)
  have k6 : (0 ≤ (u : Int)) = True := eq_true (by omega)
  have Ak1 := Aside0.mk (show wrap64 (u : Int) = (u : Int) by unfold wrap64; omega)
  clear hx1 hm1 hg1 ht hL hu hu2
  obtain ⟨m, rfl⟩ := Int.eq_ofNat_of_zero_le hN.1
  have hm := hN.2
  obtain ⟨af, eF, hv⟩ := Kd.at_int hg0 (m : Int) (by omega) hm
  subst eF
  rw [Int.toNat_natCast] at hv
  have c0 := decide_eq_false (show ¬ (m : Int) < 0 by omega)
  have c3 := decide_eq_false (show ¬ ((rd_T77 s0_1 (u : Int)).f0.length : Int) ≤ (m : Int) by omega)
  have c3n := decide_eq_false (show ¬ (rd_T77 s0_1 (u : Int)).f0.length ≤ m by omega)
  have j1 : ((m : Int) < ((rd_T77 s0_1 (u : Int)).f0.length : Int)) = True := eq_true hm
  have j2 : (m < (rd_T77 s0_1 (u : Int)).f0.length) = True := eq_true (by omega)
  clear hm0 hg0 hm hN
  have Ahl0 := Aside0.mk hl0
  clear hl0
  have Ahl1 := Aside0.mk hl1
  clear hl1
  have Ahx0 := Aside0.mk hx0
  clear hx0
  have Ahv := Aside0.mk hv
  clear hv
  clear ht1
  obtain ⟨W1, hW1⟩ : ∃ W1, w.alloc (.cells #[.int .i64 11, .int .i64 a1_1, .int .i64 a1_2, .int .i64 a1_3, .int .i64 (m : Int), .string a1_5, .slice A1_6 l1_6.length c1_6, .bool a1_7] 33) = W1 := ⟨_, rfl⟩
  have hb1 : Below w.heap.size w W1 := by rw [← hW1]; exact below_alloc (Below.refl _ _) _
  have hB1 : W1.heap[w.heap.size]? = some (.cells #[.int .i64 11, .int .i64 a1_1, .int .i64 a1_2, .int .i64 a1_3, .int .i64 (m : Int), .string a1_5, .slice A1_6 l1_6.length c1_6, .bool a1_7] 33 (0, 0)) := by rw [← hW1]; exact heap_alloc_new w _
  have HB1 := Aside0.mk hB1
  have HP1 := Aside0.mk hP
  have HR1 := Aside0.mk hr2
  have HC := Aside0.mk hc2
  have HBW := Aside0.mk hb1
  have o0 : W1.cell? ⟨w.heap.size, 0, none⟩ = some (.int .i64 11) := (blk_cell hB1 0).trans rfl
  clear hP hr2 hc2 hb1 hB1
  go_enter Tryd.func35, Tryd.ntmps35
  go_wp2_with (first | (go_at_call 44; (with_reducible refine (hallmarkref04_wants.calls 1 11 ([]) ((-1)) false W1 HWA.out).mono ?_); rintro e W2 ⟨vw, rfl, hvw, hbw⟩; obtain ⟨Aw, cw, rfl, hcw, hAw⟩ := Kd.R_reads hvw; have HAW := Aside0.mk hAw; have HCW := Aside0.mk hcw; have HB := Aside0.mk (below_step HBW.out hbw); have HBO := Aside0.mk (blk_below HB1.out hbw); clear hvw hbw hAw hcw HBW HB1 o0; have HP := Aside0.mk (HP1.out.below HB.out); have HR := Aside0.mk (Kd.C_below HR1.out HB.out); have o0 : W2.cell? ⟨w.heap.size, 0, none⟩ = some (.int .i64 11) := (blk_cell HBO.out 0).trans rfl; have o4 : W2.cell? ⟨w.heap.size, 4, none⟩ = some (.int .i64 (m : Int)) := (blk_cell HBO.out 4).trans rfl; have o5 : W2.cell? ⟨w.heap.size, 5, none⟩ = some (.string a1_5) := (blk_cell HBO.out 5).trans rfl; have p0 : W2.cell? ⟨g, 0, none⟩ = some (.slice B0 s0_0.length d0) := (blk_cell HP.out.b 0).trans rfl; have p1 : W2.cell? ⟨g, 1, none⟩ = some (.slice (some ad) s0_1.length d1) := (blk_cell HP.out.b 1).trans rfl; have p2 : W2.cell? ⟨g, 2, none⟩ = some (.slice B2 s0_2.length d2) := (blk_cell HP.out.b 2).trans rfl))
  have y0 := (HB.out.cell (World.block_lt_of_cell? w _ Ahl0.out)).trans Ahl0.out
  have y1 := (HB.out.cell (World.block_lt_of_cell? w _ Ahl1.out)).trans Ahl1.out
  have x0 := (HB.out.cell (World.block_lt_of_cell? w _ Ahx0.out)).trans Ahx0.out
  have v0 := (HB.out.cell (World.block_lt_of_cell? w _ Ahv.out)).trans Ahv.out
  have k1 := Ak1.out
  have k1b := i64_w (u : Int)
  rw [k1] at k1b
  go_quiet (fail)
  go_wp2
  go_quiet (fail)
  go_wp2
  go_quiet (fail)
  go_wp2
  go_ret2
  exact ⟨by first | rfl | (simp only [i64_w]; done) | (simp only [i64_w]; rfl) | (simp [*]; done), by repeat (first | exact HB.out | apply pw_below_drewN | apply below_alloc)⟩

set_option maxHeartbeats 4000000 in
set_option maxRecDepth 100000 in
theorem ref23a (g : Nat) (B0 : Option Addr) (d0 : Nat) (s0_0 : List S73) (B1 : Option Addr) (d1 : Nat) (s0_1 : List S77) (B2 : Option Addr) (d2 : Nat) (s0_2 : List S66) (n a1_1 a1_2 a1_3 : Int) (a1_5 : ByteArray) (A1_6 : Option Addr) (c1_6 : Nat) (l1_6 : List Int) (a1_7 : Bool) (A2 : Option Addr) (c2 : Nat) (l2 : List Int) (w : World) (hP : PA w g B0 d0 s0_0 B1 d1 s0_1 B2 d2 s0_2) (hr2 : Kd.C (Kd.int .i64) w A2 l2.length l2) (hc2 : l2.length ≤ c2) (c0 : decide (n < 0) = true) :
    Calls Tryd.prog 35 #[.pointer (some ⟨g, 0, none⟩), .agg #[.int .i64 23, .int .i64 a1_1, .int .i64 a1_2, .int .i64 a1_3, .int .i64 n, .string a1_5, .slice A1_6 l1_6.length c1_6, .bool a1_7], .slice A2 l2.length c2] w fun e w' => e = .returned (.tuple #[.int .i64 (-1), .bool (false)]) ∧ Below w.heap.size w w' := by
  have HWA : Aside0 (hallmarkref04_wants.f 1 23 = some ([], (-1), false)) := ⟨by decide⟩
  obtain ⟨W1, hW1⟩ : ∃ W1, w.alloc (.cells #[.int .i64 23, .int .i64 a1_1, .int .i64 a1_2, .int .i64 a1_3, .int .i64 n, .string a1_5, .slice A1_6 l1_6.length c1_6, .bool a1_7] 33) = W1 := ⟨_, rfl⟩
  have hb1 : Below w.heap.size w W1 := by rw [← hW1]; exact below_alloc (Below.refl _ _) _
  have hB1 : W1.heap[w.heap.size]? = some (.cells #[.int .i64 23, .int .i64 a1_1, .int .i64 a1_2, .int .i64 a1_3, .int .i64 n, .string a1_5, .slice A1_6 l1_6.length c1_6, .bool a1_7] 33 (0, 0)) := by rw [← hW1]; exact heap_alloc_new w _
  have HB1 := Aside0.mk hB1
  have HP1 := Aside0.mk hP
  have HR1 := Aside0.mk hr2
  have HC := Aside0.mk hc2
  have HBW := Aside0.mk hb1
  have o0 : W1.cell? ⟨w.heap.size, 0, none⟩ = some (.int .i64 23) := (blk_cell hB1 0).trans rfl
  clear hP hr2 hc2 hb1 hB1
  go_enter Tryd.func35, Tryd.ntmps35
  go_wp2_with (first | (go_at_call 44; (with_reducible refine (hallmarkref04_wants.calls 1 23 ([]) ((-1)) false W1 HWA.out).mono ?_); rintro e W2 ⟨vw, rfl, hvw, hbw⟩; obtain ⟨Aw, cw, rfl, hcw, hAw⟩ := Kd.R_reads hvw; have HAW := Aside0.mk hAw; have HCW := Aside0.mk hcw; have HB := Aside0.mk (below_step HBW.out hbw); have HBO := Aside0.mk (blk_below HB1.out hbw); clear hvw hbw hAw hcw HBW HB1 o0; have HP := Aside0.mk (HP1.out.below HB.out); have HR := Aside0.mk (Kd.C_below HR1.out HB.out); have o0 : W2.cell? ⟨w.heap.size, 0, none⟩ = some (.int .i64 23) := (blk_cell HBO.out 0).trans rfl; have o4 : W2.cell? ⟨w.heap.size, 4, none⟩ = some (.int .i64 n) := (blk_cell HBO.out 4).trans rfl; have o5 : W2.cell? ⟨w.heap.size, 5, none⟩ = some (.string a1_5) := (blk_cell HBO.out 5).trans rfl; have p0 : W2.cell? ⟨g, 0, none⟩ = some (.slice B0 s0_0.length d0) := (blk_cell HP.out.b 0).trans rfl; have p1 : W2.cell? ⟨g, 1, none⟩ = some (.slice B1 s0_1.length d1) := (blk_cell HP.out.b 1).trans rfl; have p2 : W2.cell? ⟨g, 2, none⟩ = some (.slice B2 s0_2.length d2) := (blk_cell HP.out.b 2).trans rfl))
  go_quiet (fail)
  go_wp2
  go_ret2
  exact ⟨by first | rfl | (simp only [i64_w]; done) | (simp only [i64_w]; rfl) | (simp [*]; done), by repeat (first | exact HB.out | apply pw_below_drewN | apply below_alloc)⟩

set_option maxHeartbeats 4000000 in
set_option maxRecDepth 100000 in
theorem ref23b (g : Nat) (B0 : Option Addr) (d0 : Nat) (s0_0 : List S73) (B1 : Option Addr) (d1 : Nat) (s0_1 : List S77) (B2 : Option Addr) (d2 : Nat) (s0_2 : List S66) (n a1_1 a1_2 a1_3 : Int) (a1_5 : ByteArray) (A1_6 : Option Addr) (c1_6 : Nat) (l1_6 : List Int) (a1_7 : Bool) (A2 : Option Addr) (c2 : Nat) (l2 : List Int) (w : World) (hP : PA w g B0 d0 s0_0 B1 d1 s0_1 B2 d2 s0_2) (hr2 : Kd.C (Kd.int .i64) w A2 l2.length l2) (hc2 : l2.length ≤ c2) (c0 : decide (n < 0) = false) (c3 : decide ((s0_2.length : Int) ≤ n) = true) :
    Calls Tryd.prog 35 #[.pointer (some ⟨g, 0, none⟩), .agg #[.int .i64 23, .int .i64 a1_1, .int .i64 a1_2, .int .i64 a1_3, .int .i64 n, .string a1_5, .slice A1_6 l1_6.length c1_6, .bool a1_7], .slice A2 l2.length c2] w fun e w' => e = .returned (.tuple #[.int .i64 (-1), .bool (false)]) ∧ Below w.heap.size w w' := by
  have HWA : Aside0 (hallmarkref04_wants.f 1 23 = some ([], (-1), false)) := ⟨by decide⟩
  obtain ⟨W1, hW1⟩ : ∃ W1, w.alloc (.cells #[.int .i64 23, .int .i64 a1_1, .int .i64 a1_2, .int .i64 a1_3, .int .i64 n, .string a1_5, .slice A1_6 l1_6.length c1_6, .bool a1_7] 33) = W1 := ⟨_, rfl⟩
  have hb1 : Below w.heap.size w W1 := by rw [← hW1]; exact below_alloc (Below.refl _ _) _
  have hB1 : W1.heap[w.heap.size]? = some (.cells #[.int .i64 23, .int .i64 a1_1, .int .i64 a1_2, .int .i64 a1_3, .int .i64 n, .string a1_5, .slice A1_6 l1_6.length c1_6, .bool a1_7] 33 (0, 0)) := by rw [← hW1]; exact heap_alloc_new w _
  have HB1 := Aside0.mk hB1
  have HP1 := Aside0.mk hP
  have HR1 := Aside0.mk hr2
  have HC := Aside0.mk hc2
  have HBW := Aside0.mk hb1
  have o0 : W1.cell? ⟨w.heap.size, 0, none⟩ = some (.int .i64 23) := (blk_cell hB1 0).trans rfl
  clear hP hr2 hc2 hb1 hB1
  go_enter Tryd.func35, Tryd.ntmps35
  go_wp2_with (first | (go_at_call 44; (with_reducible refine (hallmarkref04_wants.calls 1 23 ([]) ((-1)) false W1 HWA.out).mono ?_); rintro e W2 ⟨vw, rfl, hvw, hbw⟩; obtain ⟨Aw, cw, rfl, hcw, hAw⟩ := Kd.R_reads hvw; have HAW := Aside0.mk hAw; have HCW := Aside0.mk hcw; have HB := Aside0.mk (below_step HBW.out hbw); have HBO := Aside0.mk (blk_below HB1.out hbw); clear hvw hbw hAw hcw HBW HB1 o0; have HP := Aside0.mk (HP1.out.below HB.out); have HR := Aside0.mk (Kd.C_below HR1.out HB.out); have o0 : W2.cell? ⟨w.heap.size, 0, none⟩ = some (.int .i64 23) := (blk_cell HBO.out 0).trans rfl; have o4 : W2.cell? ⟨w.heap.size, 4, none⟩ = some (.int .i64 n) := (blk_cell HBO.out 4).trans rfl; have o5 : W2.cell? ⟨w.heap.size, 5, none⟩ = some (.string a1_5) := (blk_cell HBO.out 5).trans rfl; have p0 : W2.cell? ⟨g, 0, none⟩ = some (.slice B0 s0_0.length d0) := (blk_cell HP.out.b 0).trans rfl; have p1 : W2.cell? ⟨g, 1, none⟩ = some (.slice B1 s0_1.length d1) := (blk_cell HP.out.b 1).trans rfl; have p2 : W2.cell? ⟨g, 2, none⟩ = some (.slice B2 s0_2.length d2) := (blk_cell HP.out.b 2).trans rfl))
  go_quiet (fail)
  go_wp2
  go_ret2
  exact ⟨by first | rfl | (simp only [i64_w]; done) | (simp only [i64_w]; rfl) | (simp [*]; done), by repeat (first | exact HB.out | apply pw_below_drewN | apply below_alloc)⟩

set_option maxHeartbeats 4000000 in
set_option maxRecDepth 100000 in
theorem ref23c (g : Nat) (B0 : Option Addr) (d0 : Nat) (s0_0 : List S73) (B1 : Option Addr) (d1 : Nat) (s0_1 : List S77) (B2 : Option Addr) (d2 : Nat) (s0_2 : List S66) (n a1_1 a1_2 a1_3 : Int) (a1_5 : ByteArray) (A1_6 : Option Addr) (c1_6 : Nat) (l1_6 : List Int) (a1_7 : Bool) (A2 : Option Addr) (c2 : Nat) (l2 : List Int) (w : World) (hP : PA w g B0 d0 s0_0 B1 d1 s0_1 B2 d2 s0_2) (hr2 : Kd.C (Kd.int .i64) w A2 l2.length l2) (hc2 : l2.length ≤ c2) (hN : 0 ≤ n ∧ n < (s0_2.length : Int)) (hb : (rd_T66 s0_2 n).f1.length = 0) :
    Calls Tryd.prog 35 #[.pointer (some ⟨g, 0, none⟩), .agg #[.int .i64 23, .int .i64 a1_1, .int .i64 a1_2, .int .i64 a1_3, .int .i64 n, .string a1_5, .slice A1_6 l1_6.length c1_6, .bool a1_7], .slice A2 l2.length c2] w fun e w' => e = .returned (.tuple #[.int .i64 (-1), .bool (false)]) ∧ Below w.heap.size w w' := by
  have HWA : Aside0 (hallmarkref04_wants.f 1 23 = some ([], (-1), false)) := ⟨by decide⟩
  obtain ⟨m, rfl⟩ := Int.eq_ofNat_of_zero_le hN.1
  obtain ⟨adf, Ab, cb, eF2, hx0, hx1, hl1, hg1⟩ := at_T66 hP.r2 (m : Int) (by omega) hN.2
  subst eF2
  rw [Int.toNat_natCast] at hx0 hx1
  have c0 := decide_eq_false (show ¬ (m : Int) < 0 by omega)
  have c3 := decide_eq_false (show ¬ (s0_2.length : Int) ≤ (m : Int) by omega)
  have c3n := decide_eq_false (show ¬ s0_2.length ≤ m by omega)
  have j1 : ((m : Int) < (s0_2.length : Int)) = True := eq_true hN.2
  have j2 : (m < s0_2.length) = True := eq_true (by omega)
  have c5 : ((rd_T66 s0_2 (m : Int)).f1.length == 0) = true := beq_iff_eq.mpr hb
  have c6 : (((rd_T66 s0_2 (m : Int)).f1.length : Int) == 0) = true := beq_iff_eq.mpr (by omega)
  have c7 : ((rd_T66 s0_2 (m : Int)).f1 = []) = True := eq_true (List.length_eq_zero_iff.1 hb)
  clear hN hb
  clear hg1 hl1
  have Ahx0 := Aside0.mk hx0
  clear hx0
  have Ahx1 := Aside0.mk hx1
  clear hx1
  obtain ⟨W1, hW1⟩ : ∃ W1, w.alloc (.cells #[.int .i64 23, .int .i64 a1_1, .int .i64 a1_2, .int .i64 a1_3, .int .i64 (m : Int), .string a1_5, .slice A1_6 l1_6.length c1_6, .bool a1_7] 33) = W1 := ⟨_, rfl⟩
  have hb1 : Below w.heap.size w W1 := by rw [← hW1]; exact below_alloc (Below.refl _ _) _
  have hB1 : W1.heap[w.heap.size]? = some (.cells #[.int .i64 23, .int .i64 a1_1, .int .i64 a1_2, .int .i64 a1_3, .int .i64 (m : Int), .string a1_5, .slice A1_6 l1_6.length c1_6, .bool a1_7] 33 (0, 0)) := by rw [← hW1]; exact heap_alloc_new w _
  have HB1 := Aside0.mk hB1
  have HP1 := Aside0.mk hP
  have HR1 := Aside0.mk hr2
  have HC := Aside0.mk hc2
  have HBW := Aside0.mk hb1
  have o0 : W1.cell? ⟨w.heap.size, 0, none⟩ = some (.int .i64 23) := (blk_cell hB1 0).trans rfl
  clear hP hr2 hc2 hb1 hB1
  go_enter Tryd.func35, Tryd.ntmps35
  go_wp2_with (first | (go_at_call 44; (with_reducible refine (hallmarkref04_wants.calls 1 23 ([]) ((-1)) false W1 HWA.out).mono ?_); rintro e W2 ⟨vw, rfl, hvw, hbw⟩; obtain ⟨Aw, cw, rfl, hcw, hAw⟩ := Kd.R_reads hvw; have HAW := Aside0.mk hAw; have HCW := Aside0.mk hcw; have HB := Aside0.mk (below_step HBW.out hbw); have HBO := Aside0.mk (blk_below HB1.out hbw); clear hvw hbw hAw hcw HBW HB1 o0; have HP := Aside0.mk (HP1.out.below HB.out); have HR := Aside0.mk (Kd.C_below HR1.out HB.out); have o0 : W2.cell? ⟨w.heap.size, 0, none⟩ = some (.int .i64 23) := (blk_cell HBO.out 0).trans rfl; have o4 : W2.cell? ⟨w.heap.size, 4, none⟩ = some (.int .i64 (m : Int)) := (blk_cell HBO.out 4).trans rfl; have o5 : W2.cell? ⟨w.heap.size, 5, none⟩ = some (.string a1_5) := (blk_cell HBO.out 5).trans rfl; have p0 : W2.cell? ⟨g, 0, none⟩ = some (.slice B0 s0_0.length d0) := (blk_cell HP.out.b 0).trans rfl; have p1 : W2.cell? ⟨g, 1, none⟩ = some (.slice B1 s0_1.length d1) := (blk_cell HP.out.b 1).trans rfl; have p2 : W2.cell? ⟨g, 2, none⟩ = some (.slice (some adf) s0_2.length d2) := (blk_cell HP.out.b 2).trans rfl))
  have x0 := (HB.out.cell (World.block_lt_of_cell? w _ Ahx0.out)).trans Ahx0.out
  have x1 := (HB.out.cell (World.block_lt_of_cell? w _ Ahx1.out)).trans Ahx1.out
  go_quiet (fail)
  go_wp2
  go_ret2
  exact ⟨by first | rfl | (simp only [i64_w]; done) | (simp only [i64_w]; rfl) | (simp [*]; done), by repeat (first | exact HB.out | apply pw_below_drewN | apply below_alloc)⟩

set_option maxHeartbeats 4000000 in
set_option maxRecDepth 100000 in
theorem ref23 (g : Nat) (B0 : Option Addr) (d0 : Nat) (s0_0 : List S73) (B1 : Option Addr) (d1 : Nat) (s0_1 : List S77) (B2 : Option Addr) (d2 : Nat) (s0_2 : List S66) (n a1_1 a1_2 a1_3 : Int) (a1_5 : ByteArray) (A1_6 : Option Addr) (c1_6 : Nat) (l1_6 : List Int) (a1_7 : Bool) (A2 : Option Addr) (c2 : Nat) (l2 : List Int) (w : World) (hP : PA w g B0 d0 s0_0 B1 d1 s0_1 B2 d2 s0_2) (hr2 : Kd.C (Kd.int .i64) w A2 l2.length l2) (hc2 : l2.length ≤ c2) (hN : 0 ≤ n ∧ n < (s0_2.length : Int)) (hb : 0 < (rd_T66 s0_2 n).f1.length) :
    Calls Tryd.prog 35 #[.pointer (some ⟨g, 0, none⟩), .agg #[.int .i64 23, .int .i64 a1_1, .int .i64 a1_2, .int .i64 a1_3, .int .i64 n, .string a1_5, .slice A1_6 l1_6.length c1_6, .bool a1_7], .slice A2 l2.length c2] w fun e w' => e = .returned (.tuple #[.int .i64 ((rd_T66 s0_2 n).f0), .bool (decide (l2 = (rd_T71 (rd_T66 s0_2 n).f1 0).f0))]) ∧ Below w.heap.size w w' := by
  have HWA : Aside0 (hallmarkref04_wants.f 1 23 = some ([], (-1), false)) := ⟨by decide⟩
  obtain ⟨m, rfl⟩ := Int.eq_ofNat_of_zero_le hN.1
  obtain ⟨adf, Ab, cb, eF2, hx0, hx1, hl1, hg1⟩ := at_T66 hP.r2 (m : Int) (by omega) hN.2
  subst eF2
  rw [Int.toNat_natCast] at hx0 hx1
  have c0 := decide_eq_false (show ¬ (m : Int) < 0 by omega)
  have c3 := decide_eq_false (show ¬ (s0_2.length : Int) ≤ (m : Int) by omega)
  have c3n := decide_eq_false (show ¬ s0_2.length ≤ m by omega)
  have j1 : ((m : Int) < (s0_2.length : Int)) = True := eq_true hN.2
  have j2 : (m < s0_2.length) = True := eq_true (by omega)
  have c5 : ((rd_T66 s0_2 (m : Int)).f1.length == 0) = false := beq_eq_false_iff_ne.mpr (by omega)
  have c6 : (((rd_T66 s0_2 (m : Int)).f1.length : Int) == 0) = false := beq_eq_false_iff_ne.mpr (by omega)
  have c7 : ((rd_T66 s0_2 (m : Int)).f1 = []) = False := eq_false (fun e => by rw [e] at hb; exact absurd hb (by simp))
  obtain ⟨ab, A0, cp, Ao, co, A6, c6_, A7, c7_, eA, hy0, hy1, hy2, hy3, hy4, hy5, hy6, hy7, hl2, hg2, hrest⟩ := at_T71 hg1 0 (by omega) (by omega)
  subst eA
  rw [show (0 : Int).toNat = 0 from rfl, Nat.zero_mul, Addr.add_zero'] at hy0
  have j3 : (0 < (rd_T66 s0_2 (m : Int)).f1.length) = True := eq_true hb
  have j4 : ((0 : Int) < ((rd_T66 s0_2 (m : Int)).f1.length : Int)) = True := eq_true (by omega)
  clear hy1 hy2 hy3 hy4 hy5 hy6 hy7 hrest hg1 hl1
  clear hN hb
  have Ahx0 := Aside0.mk hx0
  clear hx0
  have Ahx1 := Aside0.mk hx1
  clear hx1
  have Ahy0 := Aside0.mk hy0
  clear hy0
  have Ahl2 := Aside0.mk hl2
  clear hl2
  have Ahg2 := Aside0.mk hg2
  clear hg2
  obtain ⟨W1, hW1⟩ : ∃ W1, w.alloc (.cells #[.int .i64 23, .int .i64 a1_1, .int .i64 a1_2, .int .i64 a1_3, .int .i64 (m : Int), .string a1_5, .slice A1_6 l1_6.length c1_6, .bool a1_7] 33) = W1 := ⟨_, rfl⟩
  have hb1 : Below w.heap.size w W1 := by rw [← hW1]; exact below_alloc (Below.refl _ _) _
  have hB1 : W1.heap[w.heap.size]? = some (.cells #[.int .i64 23, .int .i64 a1_1, .int .i64 a1_2, .int .i64 a1_3, .int .i64 (m : Int), .string a1_5, .slice A1_6 l1_6.length c1_6, .bool a1_7] 33 (0, 0)) := by rw [← hW1]; exact heap_alloc_new w _
  have HB1 := Aside0.mk hB1
  have HP1 := Aside0.mk hP
  have HR1 := Aside0.mk hr2
  have HC := Aside0.mk hc2
  have HBW := Aside0.mk hb1
  have o0 : W1.cell? ⟨w.heap.size, 0, none⟩ = some (.int .i64 23) := (blk_cell hB1 0).trans rfl
  clear hP hr2 hc2 hb1 hB1
  go_enter Tryd.func35, Tryd.ntmps35
  go_wp2_with (first | (go_at_call 44; (with_reducible refine (hallmarkref04_wants.calls 1 23 ([]) ((-1)) false W1 HWA.out).mono ?_); rintro e W2 ⟨vw, rfl, hvw, hbw⟩; obtain ⟨Aw, cw, rfl, hcw, hAw⟩ := Kd.R_reads hvw; have HAW := Aside0.mk hAw; have HCW := Aside0.mk hcw; have HB := Aside0.mk (below_step HBW.out hbw); have HBO := Aside0.mk (blk_below HB1.out hbw); clear hvw hbw hAw hcw HBW HB1 o0; have HP := Aside0.mk (HP1.out.below HB.out); have HR := Aside0.mk (Kd.C_below HR1.out HB.out); have o0 : W2.cell? ⟨w.heap.size, 0, none⟩ = some (.int .i64 23) := (blk_cell HBO.out 0).trans rfl; have o4 : W2.cell? ⟨w.heap.size, 4, none⟩ = some (.int .i64 (m : Int)) := (blk_cell HBO.out 4).trans rfl; have o5 : W2.cell? ⟨w.heap.size, 5, none⟩ = some (.string a1_5) := (blk_cell HBO.out 5).trans rfl; have p0 : W2.cell? ⟨g, 0, none⟩ = some (.slice B0 s0_0.length d0) := (blk_cell HP.out.b 0).trans rfl; have p1 : W2.cell? ⟨g, 1, none⟩ = some (.slice B1 s0_1.length d1) := (blk_cell HP.out.b 1).trans rfl; have p2 : W2.cell? ⟨g, 2, none⟩ = some (.slice (some adf) s0_2.length d2) := (blk_cell HP.out.b 2).trans rfl))
  have x0 := (HB.out.cell (World.block_lt_of_cell? w _ Ahx0.out)).trans Ahx0.out
  have x1 := (HB.out.cell (World.block_lt_of_cell? w _ Ahx1.out)).trans Ahx1.out
  have y0 := (HB.out.cell (World.block_lt_of_cell? w _ Ahy0.out)).trans Ahy0.out
  go_quiet (fail)
  go_wp2
  go_quiet ((go_at_call 20; (first | refine Calls.quiet_of (v := .bool (decide (l2 = (rd_T71 (rd_T66 s0_2 (m : Int)).f1 0).f0))) ?_ | refine quiet_sum (v := .bool (decide (l2 = (rd_T71 (rd_T66 s0_2 (m : Int)).f1 0).f0))) ?_ | refine quiet_sum2 (v := .bool (decide (l2 = (rd_T71 (rd_T66 s0_2 (m : Int)).f1 0).f0))) ?_); (with_reducible refine (ints_calls A2 c2 l2 _ _ (rd_T71 (rd_T66 s0_2 (m : Int)).f1 0).f0 _ rfl _ (Kd.C_drewN HR.out _) HC.out (Kd.C_drewN (Kd.C_below Ahg2.out HB.out) _) Ahl2.out).mono ?_); rintro e Z2 ⟨he, ⟨hd⟩⟩; exact ⟨he, hd⟩))
  go_wp2
  go_ret2
  exact ⟨by first | rfl | (simp only [i64_w]; done) | (simp only [i64_w]; rfl) | (simp [*]; done), by repeat (first | exact HB.out | apply pw_below_drewN | apply below_alloc)⟩

set_option maxHeartbeats 4000000 in
set_option maxRecDepth 100000 in
theorem ref24a (g : Nat) (B0 : Option Addr) (d0 : Nat) (s0_0 : List S73) (B1 : Option Addr) (d1 : Nat) (s0_1 : List S77) (B2 : Option Addr) (d2 : Nat) (s0_2 : List S66) (n a1_1 a1_2 a1_3 : Int) (a1_5 : ByteArray) (A1_6 : Option Addr) (c1_6 : Nat) (l1_6 : List Int) (a1_7 : Bool) (A2 : Option Addr) (c2 : Nat) (l2 : List Int) (w : World) (hP : PA w g B0 d0 s0_0 B1 d1 s0_1 B2 d2 s0_2) (hr2 : Kd.C (Kd.int .i64) w A2 l2.length l2) (hc2 : l2.length ≤ c2) (c0 : decide (n < 0) = true) :
    Calls Tryd.prog 35 #[.pointer (some ⟨g, 0, none⟩), .agg #[.int .i64 24, .int .i64 a1_1, .int .i64 a1_2, .int .i64 a1_3, .int .i64 n, .string a1_5, .slice A1_6 l1_6.length c1_6, .bool a1_7], .slice A2 l2.length c2] w fun e w' => e = .returned (.tuple #[.int .i64 (-1), .bool (false)]) ∧ Below w.heap.size w w' := by
  have HWA : Aside0 (hallmarkref04_wants.f 1 24 = some ([], (-1), false)) := ⟨by decide⟩
  obtain ⟨W1, hW1⟩ : ∃ W1, w.alloc (.cells #[.int .i64 24, .int .i64 a1_1, .int .i64 a1_2, .int .i64 a1_3, .int .i64 n, .string a1_5, .slice A1_6 l1_6.length c1_6, .bool a1_7] 33) = W1 := ⟨_, rfl⟩
  have hb1 : Below w.heap.size w W1 := by rw [← hW1]; exact below_alloc (Below.refl _ _) _
  have hB1 : W1.heap[w.heap.size]? = some (.cells #[.int .i64 24, .int .i64 a1_1, .int .i64 a1_2, .int .i64 a1_3, .int .i64 n, .string a1_5, .slice A1_6 l1_6.length c1_6, .bool a1_7] 33 (0, 0)) := by rw [← hW1]; exact heap_alloc_new w _
  have HB1 := Aside0.mk hB1
  have HP1 := Aside0.mk hP
  have HR1 := Aside0.mk hr2
  have HC := Aside0.mk hc2
  have HBW := Aside0.mk hb1
  have o0 : W1.cell? ⟨w.heap.size, 0, none⟩ = some (.int .i64 24) := (blk_cell hB1 0).trans rfl
  clear hP hr2 hc2 hb1 hB1
  go_enter Tryd.func35, Tryd.ntmps35
  go_wp2_with (first | (go_at_call 44; (with_reducible refine (hallmarkref04_wants.calls 1 24 ([]) ((-1)) false W1 HWA.out).mono ?_); rintro e W2 ⟨vw, rfl, hvw, hbw⟩; obtain ⟨Aw, cw, rfl, hcw, hAw⟩ := Kd.R_reads hvw; have HAW := Aside0.mk hAw; have HCW := Aside0.mk hcw; have HB := Aside0.mk (below_step HBW.out hbw); have HBO := Aside0.mk (blk_below HB1.out hbw); clear hvw hbw hAw hcw HBW HB1 o0; have HP := Aside0.mk (HP1.out.below HB.out); have HR := Aside0.mk (Kd.C_below HR1.out HB.out); have o0 : W2.cell? ⟨w.heap.size, 0, none⟩ = some (.int .i64 24) := (blk_cell HBO.out 0).trans rfl; have o4 : W2.cell? ⟨w.heap.size, 4, none⟩ = some (.int .i64 n) := (blk_cell HBO.out 4).trans rfl; have o5 : W2.cell? ⟨w.heap.size, 5, none⟩ = some (.string a1_5) := (blk_cell HBO.out 5).trans rfl; have p0 : W2.cell? ⟨g, 0, none⟩ = some (.slice B0 s0_0.length d0) := (blk_cell HP.out.b 0).trans rfl; have p1 : W2.cell? ⟨g, 1, none⟩ = some (.slice B1 s0_1.length d1) := (blk_cell HP.out.b 1).trans rfl; have p2 : W2.cell? ⟨g, 2, none⟩ = some (.slice B2 s0_2.length d2) := (blk_cell HP.out.b 2).trans rfl))
  go_quiet (fail)
  go_wp2
  go_ret2
  exact ⟨by first | rfl | (simp only [i64_w]; done) | (simp only [i64_w]; rfl) | (simp [*]; done), by repeat (first | exact HB.out | apply pw_below_drewN | apply below_alloc)⟩

set_option maxHeartbeats 4000000 in
set_option maxRecDepth 100000 in
theorem ref24b (g : Nat) (B0 : Option Addr) (d0 : Nat) (s0_0 : List S73) (B1 : Option Addr) (d1 : Nat) (s0_1 : List S77) (B2 : Option Addr) (d2 : Nat) (s0_2 : List S66) (n a1_1 a1_2 a1_3 : Int) (a1_5 : ByteArray) (A1_6 : Option Addr) (c1_6 : Nat) (l1_6 : List Int) (a1_7 : Bool) (A2 : Option Addr) (c2 : Nat) (l2 : List Int) (w : World) (hP : PA w g B0 d0 s0_0 B1 d1 s0_1 B2 d2 s0_2) (hr2 : Kd.C (Kd.int .i64) w A2 l2.length l2) (hc2 : l2.length ≤ c2) (c0 : decide (n < 0) = false) (c3 : decide ((s0_0.length : Int) ≤ n) = true) :
    Calls Tryd.prog 35 #[.pointer (some ⟨g, 0, none⟩), .agg #[.int .i64 24, .int .i64 a1_1, .int .i64 a1_2, .int .i64 a1_3, .int .i64 n, .string a1_5, .slice A1_6 l1_6.length c1_6, .bool a1_7], .slice A2 l2.length c2] w fun e w' => e = .returned (.tuple #[.int .i64 (-1), .bool (false)]) ∧ Below w.heap.size w w' := by
  have HWA : Aside0 (hallmarkref04_wants.f 1 24 = some ([], (-1), false)) := ⟨by decide⟩
  obtain ⟨W1, hW1⟩ : ∃ W1, w.alloc (.cells #[.int .i64 24, .int .i64 a1_1, .int .i64 a1_2, .int .i64 a1_3, .int .i64 n, .string a1_5, .slice A1_6 l1_6.length c1_6, .bool a1_7] 33) = W1 := ⟨_, rfl⟩
  have hb1 : Below w.heap.size w W1 := by rw [← hW1]; exact below_alloc (Below.refl _ _) _
  have hB1 : W1.heap[w.heap.size]? = some (.cells #[.int .i64 24, .int .i64 a1_1, .int .i64 a1_2, .int .i64 a1_3, .int .i64 n, .string a1_5, .slice A1_6 l1_6.length c1_6, .bool a1_7] 33 (0, 0)) := by rw [← hW1]; exact heap_alloc_new w _
  have HB1 := Aside0.mk hB1
  have HP1 := Aside0.mk hP
  have HR1 := Aside0.mk hr2
  have HC := Aside0.mk hc2
  have HBW := Aside0.mk hb1
  have o0 : W1.cell? ⟨w.heap.size, 0, none⟩ = some (.int .i64 24) := (blk_cell hB1 0).trans rfl
  clear hP hr2 hc2 hb1 hB1
  go_enter Tryd.func35, Tryd.ntmps35
  go_wp2_with (first | (go_at_call 44; (with_reducible refine (hallmarkref04_wants.calls 1 24 ([]) ((-1)) false W1 HWA.out).mono ?_); rintro e W2 ⟨vw, rfl, hvw, hbw⟩; obtain ⟨Aw, cw, rfl, hcw, hAw⟩ := Kd.R_reads hvw; have HAW := Aside0.mk hAw; have HCW := Aside0.mk hcw; have HB := Aside0.mk (below_step HBW.out hbw); have HBO := Aside0.mk (blk_below HB1.out hbw); clear hvw hbw hAw hcw HBW HB1 o0; have HP := Aside0.mk (HP1.out.below HB.out); have HR := Aside0.mk (Kd.C_below HR1.out HB.out); have o0 : W2.cell? ⟨w.heap.size, 0, none⟩ = some (.int .i64 24) := (blk_cell HBO.out 0).trans rfl; have o4 : W2.cell? ⟨w.heap.size, 4, none⟩ = some (.int .i64 n) := (blk_cell HBO.out 4).trans rfl; have o5 : W2.cell? ⟨w.heap.size, 5, none⟩ = some (.string a1_5) := (blk_cell HBO.out 5).trans rfl; have p0 : W2.cell? ⟨g, 0, none⟩ = some (.slice B0 s0_0.length d0) := (blk_cell HP.out.b 0).trans rfl; have p1 : W2.cell? ⟨g, 1, none⟩ = some (.slice B1 s0_1.length d1) := (blk_cell HP.out.b 1).trans rfl; have p2 : W2.cell? ⟨g, 2, none⟩ = some (.slice B2 s0_2.length d2) := (blk_cell HP.out.b 2).trans rfl))
  go_quiet (fail)
  go_wp2
  go_ret2
  exact ⟨by first | rfl | (simp only [i64_w]; done) | (simp only [i64_w]; rfl) | (simp [*]; done), by repeat (first | exact HB.out | apply pw_below_drewN | apply below_alloc)⟩

set_option maxHeartbeats 4000000 in
set_option maxRecDepth 100000 in
theorem ref24c (g : Nat) (B0 : Option Addr) (d0 : Nat) (s0_0 : List S73) (B1 : Option Addr) (d1 : Nat) (s0_1 : List S77) (B2 : Option Addr) (d2 : Nat) (s0_2 : List S66) (n a1_1 a1_2 a1_3 : Int) (a1_5 : ByteArray) (A1_6 : Option Addr) (c1_6 : Nat) (l1_6 : List Int) (a1_7 : Bool) (A2 : Option Addr) (c2 : Nat) (l2 : List Int) (w : World) (hP : PA w g B0 d0 s0_0 B1 d1 s0_1 B2 d2 s0_2) (hr2 : Kd.C (Kd.int .i64) w A2 l2.length l2) (hc2 : l2.length ≤ c2) (hN : 0 ≤ n ∧ n < (s0_0.length : Int)) (t : Int) (ht : rd l2 0 = t) (hL : 1 ≤ l2.length) (c5 : (t != 5) = true) :
    Calls Tryd.prog 35 #[.pointer (some ⟨g, 0, none⟩), .agg #[.int .i64 24, .int .i64 a1_1, .int .i64 a1_2, .int .i64 a1_3, .int .i64 n, .string a1_5, .slice A1_6 l1_6.length c1_6, .bool a1_7], .slice A2 l2.length c2] w fun e w' => e = .returned (.tuple #[.int .i64 (-1), .bool (false)]) ∧ Below w.heap.size w w' := by
  have HWA : Aside0 (hallmarkref04_wants.f 1 24 = some ([], (-1), false)) := ⟨by decide⟩
  obtain ⟨ad2, e2, hl0⟩ := Kd.at_int hr2 0 (by omega) (by omega)
  subst e2
  rw [ht, show (0 : Int).toNat = 0 from rfl, Addr.add_zero'] at hl0
  have i0 : (0 < l2.length) = True := eq_true (by omega)
  have i0b : ((0 : Int) < (l2.length : Int)) = True := eq_true (by omega)
  obtain ⟨m, rfl⟩ := Int.eq_ofNat_of_zero_le hN.1
  obtain ⟨ad0, As, cs_, eB0, hx0, hx1, hl1, hg1⟩ := at_T73 hP.r0 (m : Int) (by omega) hN.2
  subst eB0
  rw [Int.toNat_natCast] at hx0 hx1
  have c0 := decide_eq_false (show ¬ (m : Int) < 0 by omega)
  have c3 := decide_eq_false (show ¬ (s0_0.length : Int) ≤ (m : Int) by omega)
  have c3n := decide_eq_false (show ¬ s0_0.length ≤ m by omega)
  have j1 : ((m : Int) < (s0_0.length : Int)) = True := eq_true hN.2
  have j2 : (m < s0_0.length) = True := eq_true (by omega)
  clear hN
  have Ahl0 := Aside0.mk hl0
  clear hl0
  clear ht hL hx0 hx1 hl1 hg1
  obtain ⟨W1, hW1⟩ : ∃ W1, w.alloc (.cells #[.int .i64 24, .int .i64 a1_1, .int .i64 a1_2, .int .i64 a1_3, .int .i64 (m : Int), .string a1_5, .slice A1_6 l1_6.length c1_6, .bool a1_7] 33) = W1 := ⟨_, rfl⟩
  have hb1 : Below w.heap.size w W1 := by rw [← hW1]; exact below_alloc (Below.refl _ _) _
  have hB1 : W1.heap[w.heap.size]? = some (.cells #[.int .i64 24, .int .i64 a1_1, .int .i64 a1_2, .int .i64 a1_3, .int .i64 (m : Int), .string a1_5, .slice A1_6 l1_6.length c1_6, .bool a1_7] 33 (0, 0)) := by rw [← hW1]; exact heap_alloc_new w _
  have HB1 := Aside0.mk hB1
  have HP1 := Aside0.mk hP
  have HR1 := Aside0.mk hr2
  have HC := Aside0.mk hc2
  have HBW := Aside0.mk hb1
  have o0 : W1.cell? ⟨w.heap.size, 0, none⟩ = some (.int .i64 24) := (blk_cell hB1 0).trans rfl
  clear hP hr2 hc2 hb1 hB1
  go_enter Tryd.func35, Tryd.ntmps35
  go_wp2_with (first | (go_at_call 44; (with_reducible refine (hallmarkref04_wants.calls 1 24 ([]) ((-1)) false W1 HWA.out).mono ?_); rintro e W2 ⟨vw, rfl, hvw, hbw⟩; obtain ⟨Aw, cw, rfl, hcw, hAw⟩ := Kd.R_reads hvw; have HAW := Aside0.mk hAw; have HCW := Aside0.mk hcw; have HB := Aside0.mk (below_step HBW.out hbw); have HBO := Aside0.mk (blk_below HB1.out hbw); clear hvw hbw hAw hcw HBW HB1 o0; have HP := Aside0.mk (HP1.out.below HB.out); have HR := Aside0.mk (Kd.C_below HR1.out HB.out); have o0 : W2.cell? ⟨w.heap.size, 0, none⟩ = some (.int .i64 24) := (blk_cell HBO.out 0).trans rfl; have o4 : W2.cell? ⟨w.heap.size, 4, none⟩ = some (.int .i64 (m : Int)) := (blk_cell HBO.out 4).trans rfl; have o5 : W2.cell? ⟨w.heap.size, 5, none⟩ = some (.string a1_5) := (blk_cell HBO.out 5).trans rfl; have p0 : W2.cell? ⟨g, 0, none⟩ = some (.slice (some ad0) s0_0.length d0) := (blk_cell HP.out.b 0).trans rfl; have p1 : W2.cell? ⟨g, 1, none⟩ = some (.slice B1 s0_1.length d1) := (blk_cell HP.out.b 1).trans rfl; have p2 : W2.cell? ⟨g, 2, none⟩ = some (.slice B2 s0_2.length d2) := (blk_cell HP.out.b 2).trans rfl))
  have y0 := (HB.out.cell (World.block_lt_of_cell? w _ Ahl0.out)).trans Ahl0.out
  go_quiet (fail)
  go_wp2
  go_ret2
  exact ⟨by first | rfl | (simp only [i64_w]; done) | (simp only [i64_w]; rfl) | (simp [*]; done), by repeat (first | exact HB.out | apply pw_below_drewN | apply below_alloc)⟩

set_option maxHeartbeats 4000000 in
set_option maxRecDepth 100000 in
theorem ref24 (g : Nat) (B0 : Option Addr) (d0 : Nat) (s0_0 : List S73) (B1 : Option Addr) (d1 : Nat) (s0_1 : List S77) (B2 : Option Addr) (d2 : Nat) (s0_2 : List S66) (n a1_1 a1_2 a1_3 : Int) (a1_5 : ByteArray) (A1_6 : Option Addr) (c1_6 : Nat) (l1_6 : List Int) (a1_7 : Bool) (A2 : Option Addr) (c2 : Nat) (l2 : List Int) (w : World) (hP : PA w g B0 d0 s0_0 B1 d1 s0_1 B2 d2 s0_2) (hr2 : Kd.C (Kd.int .i64) w A2 l2.length l2) (hc2 : l2.length ≤ c2) (hN : 0 ≤ n ∧ n < (s0_0.length : Int)) (t : Int) (ht : rd l2 0 = t) (hL : 1 ≤ l2.length) (c5 : (t != 5) = false) :
    Calls Tryd.prog 35 #[.pointer (some ⟨g, 0, none⟩), .agg #[.int .i64 24, .int .i64 a1_1, .int .i64 a1_2, .int .i64 a1_3, .int .i64 n, .string a1_5, .slice A1_6 l1_6.length c1_6, .bool a1_7], .slice A2 l2.length c2] w fun e w' => e = .returned (.tuple #[.int .i64 ((rd_T73 s0_0 n).f1), .bool (decide (l2.drop 1 = (rd_T73 s0_0 n).f0))]) ∧ Below w.heap.size w w' := by
  have HWA : Aside0 (hallmarkref04_wants.f 1 24 = some ([], (-1), false)) := ⟨by decide⟩
  obtain ⟨ad2, e2, hl0⟩ := Kd.at_int hr2 0 (by omega) (by omega)
  subst e2
  rw [ht, show (0 : Int).toNat = 0 from rfl, Addr.add_zero'] at hl0
  have i0 : (0 < l2.length) = True := eq_true (by omega)
  have i0b : ((0 : Int) < (l2.length : Int)) = True := eq_true (by omega)
  obtain ⟨m, rfl⟩ := Int.eq_ofNat_of_zero_le hN.1
  obtain ⟨ad0, As, cs_, eB0, hx0, hx1, hl1, hg1⟩ := at_T73 hP.r0 (m : Int) (by omega) hN.2
  subst eB0
  rw [Int.toNat_natCast] at hx0 hx1
  have c0 := decide_eq_false (show ¬ (m : Int) < 0 by omega)
  have c3 := decide_eq_false (show ¬ (s0_0.length : Int) ≤ (m : Int) by omega)
  have c3n := decide_eq_false (show ¬ s0_0.length ≤ m by omega)
  have j1 : ((m : Int) < (s0_0.length : Int)) = True := eq_true hN.2
  have j2 : (m < s0_0.length) = True := eq_true (by omega)
  clear hN
  obtain ⟨i0137, hi0137, _, hsz137, _⟩ := info_parts info3
  obtain ⟨A137, hcut137, hA137, hC137⟩ := print_drop_of (P := Tryd.prog) (Value.int .i64) 0 31 3 .i64 Tryd.underlying31 hi0137 hsz137 (some ad2) c2 l2 1 (by omega) (by omega) hc2
  have hA1 : Kd.C (Kd.int .i64) w A137 (l2.drop 1).length (l2.drop 1) := Kd.C_of_reads (h1 := fun _ => rfl) (hA137 _ (Kd.reads_of_C hr2))
  rw [show (1 : Int).toNat = 1 from rfl] at hcut137 hC137
  simp only [List.length_drop] at hcut137 hC137
  clear hA137 hi0137 hsz137
  have Ahl0 := Aside0.mk hl0
  clear hl0
  have Ahx0 := Aside0.mk hx0
  clear hx0
  have Ahx1 := Aside0.mk hx1
  clear hx1
  have Ahl1 := Aside0.mk hl1
  clear hl1
  have Ahg1 := Aside0.mk hg1
  clear hg1
  have AhA1 := Aside0.mk hA1
  clear hA1
  have AhC137 := Aside0.mk hC137
  clear hC137
  clear ht hL
  obtain ⟨W1, hW1⟩ : ∃ W1, w.alloc (.cells #[.int .i64 24, .int .i64 a1_1, .int .i64 a1_2, .int .i64 a1_3, .int .i64 (m : Int), .string a1_5, .slice A1_6 l1_6.length c1_6, .bool a1_7] 33) = W1 := ⟨_, rfl⟩
  have hb1 : Below w.heap.size w W1 := by rw [← hW1]; exact below_alloc (Below.refl _ _) _
  have hB1 : W1.heap[w.heap.size]? = some (.cells #[.int .i64 24, .int .i64 a1_1, .int .i64 a1_2, .int .i64 a1_3, .int .i64 (m : Int), .string a1_5, .slice A1_6 l1_6.length c1_6, .bool a1_7] 33 (0, 0)) := by rw [← hW1]; exact heap_alloc_new w _
  have HB1 := Aside0.mk hB1
  have HP1 := Aside0.mk hP
  have HR1 := Aside0.mk hr2
  have HC := Aside0.mk hc2
  have HBW := Aside0.mk hb1
  have o0 : W1.cell? ⟨w.heap.size, 0, none⟩ = some (.int .i64 24) := (blk_cell hB1 0).trans rfl
  clear hP hr2 hc2 hb1 hB1
  go_enter Tryd.func35, Tryd.ntmps35
  go_wp2_with (first | (go_at_call 44; (with_reducible refine (hallmarkref04_wants.calls 1 24 ([]) ((-1)) false W1 HWA.out).mono ?_); rintro e W2 ⟨vw, rfl, hvw, hbw⟩; obtain ⟨Aw, cw, rfl, hcw, hAw⟩ := Kd.R_reads hvw; have HAW := Aside0.mk hAw; have HCW := Aside0.mk hcw; have HB := Aside0.mk (below_step HBW.out hbw); have HBO := Aside0.mk (blk_below HB1.out hbw); clear hvw hbw hAw hcw HBW HB1 o0; have HP := Aside0.mk (HP1.out.below HB.out); have HR := Aside0.mk (Kd.C_below HR1.out HB.out); have o0 : W2.cell? ⟨w.heap.size, 0, none⟩ = some (.int .i64 24) := (blk_cell HBO.out 0).trans rfl; have o4 : W2.cell? ⟨w.heap.size, 4, none⟩ = some (.int .i64 (m : Int)) := (blk_cell HBO.out 4).trans rfl; have o5 : W2.cell? ⟨w.heap.size, 5, none⟩ = some (.string a1_5) := (blk_cell HBO.out 5).trans rfl; have p0 : W2.cell? ⟨g, 0, none⟩ = some (.slice (some ad0) s0_0.length d0) := (blk_cell HP.out.b 0).trans rfl; have p1 : W2.cell? ⟨g, 1, none⟩ = some (.slice B1 s0_1.length d1) := (blk_cell HP.out.b 1).trans rfl; have p2 : W2.cell? ⟨g, 2, none⟩ = some (.slice B2 s0_2.length d2) := (blk_cell HP.out.b 2).trans rfl))
  have y0 := (HB.out.cell (World.block_lt_of_cell? w _ Ahl0.out)).trans Ahl0.out
  have x0 := (HB.out.cell (World.block_lt_of_cell? w _ Ahx0.out)).trans Ahx0.out
  have x1 := (HB.out.cell (World.block_lt_of_cell? w _ Ahx1.out)).trans Ahx1.out
  go_quiet (fail)
  go_wp2
  go_quiet ((go_at_call 20; (first | refine Calls.quiet_of (v := .bool (decide (l2.drop 1 = (rd_T73 s0_0 (m : Int)).f0))) ?_ | refine quiet_sum (v := .bool (decide (l2.drop 1 = (rd_T73 s0_0 (m : Int)).f0))) ?_ | refine quiet_sum2 (v := .bool (decide (l2.drop 1 = (rd_T73 s0_0 (m : Int)).f0))) ?_); (with_reducible refine (ints_callsN A137 (l2.length - 1) (c2 - 1) (l2.drop 1) List.length_drop.symm _ _ (rd_T73 s0_0 (m : Int)).f0 _ rfl _ (Kd.C_drewN (Kd.C_below AhA1.out HB.out) _) AhC137.out (Kd.C_drewN (Kd.C_below Ahg1.out HB.out) _) Ahl1.out).mono ?_); rintro e Z2 ⟨he, ⟨hd⟩⟩; exact ⟨he, hd⟩))
  go_wp2
  go_ret2
  exact ⟨by first | rfl | (simp only [i64_w]; done) | (simp only [i64_w]; rfl) | (simp [*]; done), by repeat (first | exact HB.out | apply pw_below_drewN | apply below_alloc)⟩

set_option maxHeartbeats 4000000 in
set_option maxRecDepth 100000 in
theorem ref3a (g : Nat) (B0 : Option Addr) (d0 : Nat) (s0_0 : List S73) (B1 : Option Addr) (d1 : Nat) (s0_1 : List S77) (B2 : Option Addr) (d2 : Nat) (s0_2 : List S66) (n a1_1 a1_2 a1_3 : Int) (a1_5 : ByteArray) (A1_6 : Option Addr) (c1_6 : Nat) (l1_6 : List Int) (a1_7 : Bool) (A2 : Option Addr) (c2 : Nat) (l2 : List Int) (w : World) (hP : PA w g B0 d0 s0_0 B1 d1 s0_1 B2 d2 s0_2) (hr2 : Kd.C (Kd.int .i64) w A2 l2.length l2) (hc2 : l2.length ≤ c2) (c0 : decide (0 ≤ n) = false) :
    Calls Tryd.prog 35 #[.pointer (some ⟨g, 0, none⟩), .agg #[.int .i64 3, .int .i64 a1_1, .int .i64 a1_2, .int .i64 a1_3, .int .i64 n, .string a1_5, .slice A1_6 l1_6.length c1_6, .bool a1_7], .slice A2 l2.length c2] w fun e w' => e = .returned (.tuple #[.int .i64 (tellsS n), .bool (false)]) ∧ Below w.heap.size w w' := by
  have HWA : Aside0 (hallmarkref04_wants.f 1 3 = some ([], (-1), false)) := ⟨by decide⟩
  obtain ⟨W1, hW1⟩ : ∃ W1, w.alloc (.cells #[.int .i64 3, .int .i64 a1_1, .int .i64 a1_2, .int .i64 a1_3, .int .i64 n, .string a1_5, .slice A1_6 l1_6.length c1_6, .bool a1_7] 33) = W1 := ⟨_, rfl⟩
  have hb1 : Below w.heap.size w W1 := by rw [← hW1]; exact below_alloc (Below.refl _ _) _
  have hB1 : W1.heap[w.heap.size]? = some (.cells #[.int .i64 3, .int .i64 a1_1, .int .i64 a1_2, .int .i64 a1_3, .int .i64 n, .string a1_5, .slice A1_6 l1_6.length c1_6, .bool a1_7] 33 (0, 0)) := by rw [← hW1]; exact heap_alloc_new w _
  have HB1 := Aside0.mk hB1
  have HP1 := Aside0.mk hP
  have HR1 := Aside0.mk hr2
  have HC := Aside0.mk hc2
  have HBW := Aside0.mk hb1
  have o0 : W1.cell? ⟨w.heap.size, 0, none⟩ = some (.int .i64 3) := (blk_cell hB1 0).trans rfl
  clear hP hr2 hc2 hb1 hB1
  go_enter Tryd.func35, Tryd.ntmps35
  go_wp2_with (first | (go_at_call 44; (with_reducible refine (hallmarkref04_wants.calls 1 3 ([]) ((-1)) false W1 HWA.out).mono ?_); rintro e W2 ⟨vw, rfl, hvw, hbw⟩; obtain ⟨Aw, cw, rfl, hcw, hAw⟩ := Kd.R_reads hvw; have HAW := Aside0.mk hAw; have HCW := Aside0.mk hcw; have HB := Aside0.mk (below_step HBW.out hbw); have HBO := Aside0.mk (blk_below HB1.out hbw); clear hvw hbw hAw hcw HBW HB1 o0; have HP := Aside0.mk (HP1.out.below HB.out); have HR := Aside0.mk (Kd.C_below HR1.out HB.out); have o0 : W2.cell? ⟨w.heap.size, 0, none⟩ = some (.int .i64 3) := (blk_cell HBO.out 0).trans rfl; have o4 : W2.cell? ⟨w.heap.size, 4, none⟩ = some (.int .i64 n) := (blk_cell HBO.out 4).trans rfl; have o5 : W2.cell? ⟨w.heap.size, 5, none⟩ = some (.string a1_5) := (blk_cell HBO.out 5).trans rfl; have p0 : W2.cell? ⟨g, 0, none⟩ = some (.slice B0 s0_0.length d0) := (blk_cell HP.out.b 0).trans rfl; have p1 : W2.cell? ⟨g, 1, none⟩ = some (.slice B1 s0_1.length d1) := (blk_cell HP.out.b 1).trans rfl; have p2 : W2.cell? ⟨g, 2, none⟩ = some (.slice B2 s0_2.length d2) := (blk_cell HP.out.b 2).trans rfl))
  go_quiet ((go_at_call 45; (first | refine Calls.quiet_of (v := .int .i64 (tellsS n)) ?_ | refine quiet_sum (v := .int .i64 (tellsS n)) ?_ | refine quiet_sum2 (v := .int .i64 (tellsS n)) ?_); (with_reducible refine (tells_calls n _).mono ?_); rintro e Z2 ⟨he, ⟨hd⟩⟩; exact ⟨he, hd⟩))
  go_wp2
  go_ret2
  exact ⟨by first | rfl | (simp only [i64_w]; done) | (simp only [i64_w]; rfl) | (simp [*]; done), by repeat (first | exact HB.out | apply pw_below_drewN | apply below_alloc)⟩

set_option maxHeartbeats 4000000 in
set_option maxRecDepth 100000 in
theorem ref3b (g : Nat) (B0 : Option Addr) (d0 : Nat) (s0_0 : List S73) (B1 : Option Addr) (d1 : Nat) (s0_1 : List S77) (B2 : Option Addr) (d2 : Nat) (s0_2 : List S66) (n a1_1 a1_2 a1_3 : Int) (a1_5 : ByteArray) (A1_6 : Option Addr) (c1_6 : Nat) (l1_6 : List Int) (a1_7 : Bool) (A2 : Option Addr) (c2 : Nat) (l2 : List Int) (w : World) (hP : PA w g B0 d0 s0_0 B1 d1 s0_1 B2 d2 s0_2) (hr2 : Kd.C (Kd.int .i64) w A2 l2.length l2) (hc2 : l2.length ≤ c2) (c0 : decide (0 ≤ n) = true) (c3 : decide (n ≤ 13) = false) :
    Calls Tryd.prog 35 #[.pointer (some ⟨g, 0, none⟩), .agg #[.int .i64 3, .int .i64 a1_1, .int .i64 a1_2, .int .i64 a1_3, .int .i64 n, .string a1_5, .slice A1_6 l1_6.length c1_6, .bool a1_7], .slice A2 l2.length c2] w fun e w' => e = .returned (.tuple #[.int .i64 (tellsS n), .bool (false)]) ∧ Below w.heap.size w w' := by
  have HWA : Aside0 (hallmarkref04_wants.f 1 3 = some ([], (-1), false)) := ⟨by decide⟩
  obtain ⟨W1, hW1⟩ : ∃ W1, w.alloc (.cells #[.int .i64 3, .int .i64 a1_1, .int .i64 a1_2, .int .i64 a1_3, .int .i64 n, .string a1_5, .slice A1_6 l1_6.length c1_6, .bool a1_7] 33) = W1 := ⟨_, rfl⟩
  have hb1 : Below w.heap.size w W1 := by rw [← hW1]; exact below_alloc (Below.refl _ _) _
  have hB1 : W1.heap[w.heap.size]? = some (.cells #[.int .i64 3, .int .i64 a1_1, .int .i64 a1_2, .int .i64 a1_3, .int .i64 n, .string a1_5, .slice A1_6 l1_6.length c1_6, .bool a1_7] 33 (0, 0)) := by rw [← hW1]; exact heap_alloc_new w _
  have HB1 := Aside0.mk hB1
  have HP1 := Aside0.mk hP
  have HR1 := Aside0.mk hr2
  have HC := Aside0.mk hc2
  have HBW := Aside0.mk hb1
  have o0 : W1.cell? ⟨w.heap.size, 0, none⟩ = some (.int .i64 3) := (blk_cell hB1 0).trans rfl
  clear hP hr2 hc2 hb1 hB1
  go_enter Tryd.func35, Tryd.ntmps35
  go_wp2_with (first | (go_at_call 44; (with_reducible refine (hallmarkref04_wants.calls 1 3 ([]) ((-1)) false W1 HWA.out).mono ?_); rintro e W2 ⟨vw, rfl, hvw, hbw⟩; obtain ⟨Aw, cw, rfl, hcw, hAw⟩ := Kd.R_reads hvw; have HAW := Aside0.mk hAw; have HCW := Aside0.mk hcw; have HB := Aside0.mk (below_step HBW.out hbw); have HBO := Aside0.mk (blk_below HB1.out hbw); clear hvw hbw hAw hcw HBW HB1 o0; have HP := Aside0.mk (HP1.out.below HB.out); have HR := Aside0.mk (Kd.C_below HR1.out HB.out); have o0 : W2.cell? ⟨w.heap.size, 0, none⟩ = some (.int .i64 3) := (blk_cell HBO.out 0).trans rfl; have o4 : W2.cell? ⟨w.heap.size, 4, none⟩ = some (.int .i64 n) := (blk_cell HBO.out 4).trans rfl; have o5 : W2.cell? ⟨w.heap.size, 5, none⟩ = some (.string a1_5) := (blk_cell HBO.out 5).trans rfl; have p0 : W2.cell? ⟨g, 0, none⟩ = some (.slice B0 s0_0.length d0) := (blk_cell HP.out.b 0).trans rfl; have p1 : W2.cell? ⟨g, 1, none⟩ = some (.slice B1 s0_1.length d1) := (blk_cell HP.out.b 1).trans rfl; have p2 : W2.cell? ⟨g, 2, none⟩ = some (.slice B2 s0_2.length d2) := (blk_cell HP.out.b 2).trans rfl))
  go_quiet ((go_at_call 45; (first | refine Calls.quiet_of (v := .int .i64 (tellsS n)) ?_ | refine quiet_sum (v := .int .i64 (tellsS n)) ?_ | refine quiet_sum2 (v := .int .i64 (tellsS n)) ?_); (with_reducible refine (tells_calls n _).mono ?_); rintro e Z2 ⟨he, ⟨hd⟩⟩; exact ⟨he, hd⟩))
  go_wp2
  go_ret2
  exact ⟨by first | rfl | (simp only [i64_w]; done) | (simp only [i64_w]; rfl) | (simp [*]; done), by repeat (first | exact HB.out | apply pw_below_drewN | apply below_alloc)⟩

set_option maxHeartbeats 4000000 in
set_option maxRecDepth 100000 in
theorem ref3 (g : Nat) (B0 : Option Addr) (d0 : Nat) (s0_0 : List S73) (B1 : Option Addr) (d1 : Nat) (s0_1 : List S77) (B2 : Option Addr) (d2 : Nat) (s0_2 : List S66) (n a1_1 a1_2 a1_3 : Int) (a1_5 : ByteArray) (A1_6 : Option Addr) (c1_6 : Nat) (l1_6 : List Int) (a1_7 : Bool) (A2 : Option Addr) (c2 : Nat) (l2 : List Int) (w : World) (hP : PA w g B0 d0 s0_0 B1 d1 s0_1 B2 d2 s0_2) (hr2 : Kd.C (Kd.int .i64) w A2 l2.length l2) (hc2 : l2.length ≤ c2) (c0 : decide (0 ≤ n) = true) (c3 : decide (n ≤ 13) = true) :
    Calls Tryd.prog 35 #[.pointer (some ⟨g, 0, none⟩), .agg #[.int .i64 3, .int .i64 a1_1, .int .i64 a1_2, .int .i64 a1_3, .int .i64 n, .string a1_5, .slice A1_6 l1_6.length c1_6, .bool a1_7], .slice A2 l2.length c2] w fun e w' => e = .returned (.tuple #[.int .i64 (tellsS n), .bool (decide (l2 = [0, 0]))]) ∧ Below w.heap.size w w' := by
  have HWA : Aside0 (hallmarkref04_wants.f 1 3 = some ([], (-1), false)) := ⟨by decide⟩
  obtain ⟨W1, hW1⟩ : ∃ W1, w.alloc (.cells #[.int .i64 3, .int .i64 a1_1, .int .i64 a1_2, .int .i64 a1_3, .int .i64 n, .string a1_5, .slice A1_6 l1_6.length c1_6, .bool a1_7] 33) = W1 := ⟨_, rfl⟩
  have hb1 : Below w.heap.size w W1 := by rw [← hW1]; exact below_alloc (Below.refl _ _) _
  have hB1 : W1.heap[w.heap.size]? = some (.cells #[.int .i64 3, .int .i64 a1_1, .int .i64 a1_2, .int .i64 a1_3, .int .i64 n, .string a1_5, .slice A1_6 l1_6.length c1_6, .bool a1_7] 33 (0, 0)) := by rw [← hW1]; exact heap_alloc_new w _
  have HB1 := Aside0.mk hB1
  have HP1 := Aside0.mk hP
  have HR1 := Aside0.mk hr2
  have HC := Aside0.mk hc2
  have HBW := Aside0.mk hb1
  have o0 : W1.cell? ⟨w.heap.size, 0, none⟩ = some (.int .i64 3) := (blk_cell hB1 0).trans rfl
  clear hP hr2 hc2 hb1 hB1
  go_enter Tryd.func35, Tryd.ntmps35
  go_wp2_with (first | (go_at_call 44; (with_reducible refine (hallmarkref04_wants.calls 1 3 ([]) ((-1)) false W1 HWA.out).mono ?_); rintro e W2 ⟨vw, rfl, hvw, hbw⟩; obtain ⟨Aw, cw, rfl, hcw, hAw⟩ := Kd.R_reads hvw; have HAW := Aside0.mk hAw; have HCW := Aside0.mk hcw; have HB := Aside0.mk (below_step HBW.out hbw); have HBO := Aside0.mk (blk_below HB1.out hbw); clear hvw hbw hAw hcw HBW HB1 o0; have HP := Aside0.mk (HP1.out.below HB.out); have HR := Aside0.mk (Kd.C_below HR1.out HB.out); have o0 : W2.cell? ⟨w.heap.size, 0, none⟩ = some (.int .i64 3) := (blk_cell HBO.out 0).trans rfl; have o4 : W2.cell? ⟨w.heap.size, 4, none⟩ = some (.int .i64 n) := (blk_cell HBO.out 4).trans rfl; have o5 : W2.cell? ⟨w.heap.size, 5, none⟩ = some (.string a1_5) := (blk_cell HBO.out 5).trans rfl; have p0 : W2.cell? ⟨g, 0, none⟩ = some (.slice B0 s0_0.length d0) := (blk_cell HP.out.b 0).trans rfl; have p1 : W2.cell? ⟨g, 1, none⟩ = some (.slice B1 s0_1.length d1) := (blk_cell HP.out.b 1).trans rfl; have p2 : W2.cell? ⟨g, 2, none⟩ = some (.slice B2 s0_2.length d2) := (blk_cell HP.out.b 2).trans rfl))
  go_region_held3 (fun w' => w'.cell? ⟨w.heap.size, 4, none⟩ = some (.int .i64 n))
    (first | exact o4 | go_keep)
    (first
      | (go_at_call 45; (with_reducible refine (tells_calls n _).mono ?_); rintro e Z2 ⟨rfl, ⟨nd1, rfl⟩⟩)
      | (go_at_call 20; (with_reducible refine (ints_calls2 A2 c2 l2 _ 2 _ [0, 0] rfl _ (by first | exact Kd.C_alloc HR.out _ | exact Kd.C_alloc (Kd.C_drewN HR.out _) _) HC.out (by first | exact lit00 _ | exact lit00d W2 _) (Nat.le_refl _)).mono ?_); rintro e Z2 ⟨rfl, ⟨nd2, rfl⟩⟩))
  go_wp2
  go_ret2
  exact ⟨by first | rfl | (simp only [i64_w]; done) | (simp only [i64_w]; rfl) | (simp [*]; done), by repeat (first | exact HB.out | apply pw_below_drewN | apply below_alloc)⟩

set_option maxHeartbeats 4000000 in
set_option maxRecDepth 100000 in
theorem refno (g : Nat) (B0 : Option Addr) (d0 : Nat) (s0_0 : List S73) (B1 : Option Addr) (d1 : Nat) (s0_1 : List S77) (B2 : Option Addr) (d2 : Nat) (s0_2 : List S66) (n a1_1 a1_2 a1_3 : Int) (a1_5 : ByteArray) (A1_6 : Option Addr) (c1_6 : Nat) (l1_6 : List Int) (a1_7 : Bool) (A2 : Option Addr) (c2 : Nat) (l2 : List Int) (w : World) (hP : PA w g B0 d0 s0_0 B1 d1 s0_1 B2 d2 s0_2) (hr2 : Kd.C (Kd.int .i64) w A2 l2.length l2) (hc2 : l2.length ≤ c2) (K : Int) (HWA : Aside0 (hallmarkref04_wants.f 1 K = some ([], (-1), false))) (n3 : K ≠ 3) (n25 : K ≠ 25) (n22 : K ≠ 22) (n9 : K ≠ 9) (n10 : K ≠ 10) (n11 : K ≠ 11) (n23 : K ≠ 23) (n24 : K ≠ 24) :
    Calls Tryd.prog 35 #[.pointer (some ⟨g, 0, none⟩), .agg #[.int .i64 K, .int .i64 a1_1, .int .i64 a1_2, .int .i64 a1_3, .int .i64 n, .string a1_5, .slice A1_6 l1_6.length c1_6, .bool a1_7], .slice A2 l2.length c2] w fun e w' => e = .returned (.tuple #[.int .i64 (-1), .bool (false)]) ∧ Below w.heap.size w w' := by
  have f3 : (K == 3) = false := beq_eq_false_iff_ne.mpr n3
  clear n3
  have f25 : (K == 25) = false := beq_eq_false_iff_ne.mpr n25
  clear n25
  have f22 : (K == 22) = false := beq_eq_false_iff_ne.mpr n22
  clear n22
  have f9 : (K == 9) = false := beq_eq_false_iff_ne.mpr n9
  clear n9
  have f10 : (K == 10) = false := beq_eq_false_iff_ne.mpr n10
  clear n10
  have f11 : (K == 11) = false := beq_eq_false_iff_ne.mpr n11
  clear n11
  have f23 : (K == 23) = false := beq_eq_false_iff_ne.mpr n23
  clear n23
  have f24 : (K == 24) = false := beq_eq_false_iff_ne.mpr n24
  clear n24
  obtain ⟨W1, hW1⟩ : ∃ W1, w.alloc (.cells #[.int .i64 K, .int .i64 a1_1, .int .i64 a1_2, .int .i64 a1_3, .int .i64 n, .string a1_5, .slice A1_6 l1_6.length c1_6, .bool a1_7] 33) = W1 := ⟨_, rfl⟩
  have hb1 : Below w.heap.size w W1 := by rw [← hW1]; exact below_alloc (Below.refl _ _) _
  have hB1 : W1.heap[w.heap.size]? = some (.cells #[.int .i64 K, .int .i64 a1_1, .int .i64 a1_2, .int .i64 a1_3, .int .i64 n, .string a1_5, .slice A1_6 l1_6.length c1_6, .bool a1_7] 33 (0, 0)) := by rw [← hW1]; exact heap_alloc_new w _
  have HB1 := Aside0.mk hB1
  have HP1 := Aside0.mk hP
  have HR1 := Aside0.mk hr2
  have HC := Aside0.mk hc2
  have HBW := Aside0.mk hb1
  have o0 : W1.cell? ⟨w.heap.size, 0, none⟩ = some (.int .i64 K) := (blk_cell hB1 0).trans rfl
  clear hP hr2 hc2 hb1 hB1
  go_enter Tryd.func35, Tryd.ntmps35
  go_wp2_with (first | (go_at_call 44; (with_reducible refine (hallmarkref04_wants.calls 1 K ([]) ((-1)) false W1 HWA.out).mono ?_); rintro e W2 ⟨vw, rfl, hvw, hbw⟩; obtain ⟨Aw, cw, rfl, hcw, hAw⟩ := Kd.R_reads hvw; have HAW := Aside0.mk hAw; have HCW := Aside0.mk hcw; have HB := Aside0.mk (below_step HBW.out hbw); have HBO := Aside0.mk (blk_below HB1.out hbw); clear hvw hbw hAw hcw HBW HB1 o0; have HP := Aside0.mk (HP1.out.below HB.out); have HR := Aside0.mk (Kd.C_below HR1.out HB.out); have o0 : W2.cell? ⟨w.heap.size, 0, none⟩ = some (.int .i64 K) := (blk_cell HBO.out 0).trans rfl; have o4 : W2.cell? ⟨w.heap.size, 4, none⟩ = some (.int .i64 n) := (blk_cell HBO.out 4).trans rfl; have o5 : W2.cell? ⟨w.heap.size, 5, none⟩ = some (.string a1_5) := (blk_cell HBO.out 5).trans rfl; have p0 : W2.cell? ⟨g, 0, none⟩ = some (.slice B0 s0_0.length d0) := (blk_cell HP.out.b 0).trans rfl; have p1 : W2.cell? ⟨g, 1, none⟩ = some (.slice B1 s0_1.length d1) := (blk_cell HP.out.b 1).trans rfl; have p2 : W2.cell? ⟨g, 2, none⟩ = some (.slice B2 s0_2.length d2) := (blk_cell HP.out.b 2).trans rfl))
  go_ret2
  exact ⟨by first | rfl | (simp only [i64_w]; done) | (simp only [i64_w]; rfl) | (simp [*]; done), by repeat (first | exact HB.out | apply pw_below_drewN | apply below_alloc)⟩

def refN (Sg : List S73) (C : List S77) (F : List S66) (K N : Int) (l : List Int) : Int × Bool :=
  if K = 3 then (tellsS N, decide (0 ≤ N) && decide (N ≤ 13) && decide (l = [0, 0]))
  else if K = 25 then (-1, rd l 0 == 0 || rd l 0 == 2)
  else if K = 22 then (5, okClass (rd l 0) C.length)
  else if K = 9 then (if 0 ≤ N ∧ N < (C.length : Int) then (wrap64 (6 + N), decide (l = (rd_T77 C N).f0)) else (-1, false))
  else if K = 10 ∨ K = 11 then (if okClass (rd l 0) C.length = true then (if 0 ≤ N ∧ N < ((rd_T77 C (rd l 0 - 6)).f0.length : Int) then (if K = 10 then (rd (rd_T77 C (rd l 0 - 6)).f0 N, true) else (-1, decide (rd l 1 = rd (rd_T77 C (rd l 0 - 6)).f0 N))) else (-1, false)) else (-1, false))
  else if K = 23 then (if 0 ≤ N ∧ N < (F.length : Int) then (if (rd_T66 F N).f1.length = 0 then (-1, false) else ((rd_T66 F N).f0, decide (l = (rd_T71 (rd_T66 F N).f1 0).f0))) else (-1, false))
  else if K = 24 then (if 0 ≤ N ∧ N < (Sg.length : Int) then (if rd l 0 = 5 then ((rd_T73 Sg N).f1, decide (l.drop 1 = (rd_T73 Sg N).f0)) else (-1, false)) else (-1, false))
  else (-1, false)
def refS (Sg : List S73) (C : List S77) (F : List S66) (K N : Int) (S : ByteArray) (l : List Int) : Int × Bool :=
  match hallmarkref04_wants.f 1 K with
  | some (want, t, true) => (t, decide (l = want) && (K != 1 || (N == 0 || N == 1)) && (K != 2 || decide (S.size ≤ 64)) && (K != 12 || (decide (0 ≤ N) && decide (N ≤ 128))))
  | _ => refN Sg C F K N l
theorem wants_some (K : Int) : ∃ want t b, hallmarkref04_wants.f 1 K = some (want, t, b) ∧ (b = false → want = [] ∧ t = -1) := by
  unfold hallmarkref04_wants.f
  by_cases k0 : K = 0
  · rw [if_pos k0]; exact ⟨_, _, true, rfl, fun h => by cases h⟩
  rw [if_neg k0]
  by_cases k1 : K = 1
  · rw [if_pos k1]; exact ⟨_, _, true, rfl, fun h => by cases h⟩
  rw [if_neg k1]
  by_cases k2 : K = 2
  · rw [if_pos k2]; exact ⟨_, _, true, rfl, fun h => by cases h⟩
  rw [if_neg k2]
  by_cases k12 : K = 12
  · rw [if_pos k12]; exact ⟨_, _, true, rfl, fun h => by cases h⟩
  rw [if_neg k12]
  by_cases k17 : K = 17
  · rw [if_pos k17]; exact ⟨_, _, true, rfl, fun h => by cases h⟩
  rw [if_neg k17]
  by_cases k4 : K = 4
  · rw [if_pos k4]; exact ⟨_, _, true, rfl, fun h => by cases h⟩
  rw [if_neg k4]
  by_cases k5 : K = 5
  · rw [if_pos k5]; exact ⟨_, _, true, rfl, fun h => by cases h⟩
  rw [if_neg k5]
  by_cases k8 : K = 8
  · rw [if_pos k8]; exact ⟨_, _, true, rfl, fun h => by cases h⟩
  rw [if_neg k8]
  by_cases k6 : K = 6
  · rw [if_pos k6]; exact ⟨_, _, true, rfl, fun h => by cases h⟩
  rw [if_neg k6]
  by_cases k7 : K = 7
  · rw [if_pos k7]; exact ⟨_, _, true, rfl, fun h => by cases h⟩
  rw [if_neg k7]
  by_cases k13 : K = 13
  · rw [if_pos k13]; exact ⟨_, _, true, rfl, fun h => by cases h⟩
  rw [if_neg k13]
  by_cases k14 : K = 14
  · rw [if_pos k14]; exact ⟨_, _, true, rfl, fun h => by cases h⟩
  rw [if_neg k14]
  by_cases k15 : K = 15
  · rw [if_pos k15]; exact ⟨_, _, true, rfl, fun h => by cases h⟩
  rw [if_neg k15]
  by_cases k16 : K = 16
  · rw [if_pos k16]; exact ⟨_, _, true, rfl, fun h => by cases h⟩
  rw [if_neg k16]
  by_cases k18 : K = 18
  · rw [if_pos k18]; exact ⟨_, _, true, rfl, fun h => by cases h⟩
  rw [if_neg k18]
  by_cases k19 : K = 19
  · rw [if_pos k19, hallmarkref04_wants.j0, if_pos (beq_iff_eq.mpr k19)]; exact ⟨_, _, true, rfl, fun h => by cases h⟩
  rw [if_neg k19, hallmarkref04_wants.j0]
  by_cases k21 : K = 21
  · rw [if_pos (beq_iff_eq.mpr k21)]; exact ⟨_, _, true, rfl, fun h => by cases h⟩
  rw [if_neg (by rw [beq_eq_false_iff_ne.mpr k21]; decide)]
  by_cases k20 : K = 20
  · rw [if_pos k20]; exact ⟨_, _, true, rfl, fun h => by cases h⟩
  rw [if_neg k20]; exact ⟨_, _, false, rfl, fun _ => ⟨rfl, rfl⟩⟩
def refOk (K : Int) (l : List Int) : Prop := (K = 10 ∨ K = 22 ∨ K = 24 ∨ K = 25 → 1 ≤ l.length) ∧ (K = 11 → 2 ≤ l.length) ∧ ∀ x ∈ l, -9223372036854775808 ≤ x ∧ x ≤ 9223372036854775807
instance (K : Int) (l : List Int) : Decidable (refOk K l) := by unfold refOk; exact inferInstance
def hallmarkref04_result.f (s0_0 : List S73) (s0_1 : List S77) (s0_2 : List S66) (a1_0 a1_1 a1_2 a1_3 a1_4 : Int) (a1_5 : ByteArray) (l1_6 : List Int) (a1_7 : Bool) (l2 : List Int) : Option (Int × Bool) := if refOk a1_0 l2 then some (refS s0_0 s0_1 s0_2 a1_0 a1_4 a1_5 l2) else none
theorem hallmarkref04_result.calls (g : Nat) (s0_0 : List S73) (s0_1 : List S77) (s0_2 : List S66) (a1_0 a1_1 a1_2 a1_3 a1_4 : Int) (a1_5 : ByteArray) (A1_6 : Option Addr) (c1_6 : Nat) (l1_6 : List Int) (a1_7 : Bool) (A2 : Option Addr) (c2 : Nat) (l2 : List Int) (r1 : Int) (r2 : Bool) (w0 w : World) (hI : IsS26 w0 w g s0_0 s0_1 s0_2) (hB : Below w0.heap.size w0 w) (hr1_6 : Kd.C (Kd.int .i64) w A1_6 l1_6.length l1_6) (hc1_6 : l1_6.length ≤ c1_6) (hf1_6 : ∀ ad, A1_6 = some ad → 0 < l1_6.length → ad.block ≠ g) (hr2 : Kd.C (Kd.int .i64) w A2 l2.length l2) (hc2 : l2.length ≤ c2) (hf2 : ∀ ad, A2 = some ad → 0 < l2.length → ad.block ≠ g) (h : hallmarkref04_result.f s0_0 s0_1 s0_2 a1_0 a1_1 a1_2 a1_3 a1_4 a1_5 l1_6 a1_7 l2 = some (r1, r2)) :
    Calls Tryd.prog 35 #[.pointer (some ⟨g, 0, none⟩), .agg #[.int .i64 a1_0, .int .i64 a1_1, .int .i64 a1_2, .int .i64 a1_3, .int .i64 a1_4, .string a1_5, .slice A1_6 l1_6.length c1_6, .bool a1_7], .slice A2 l2.length c2] w fun e w' => e = .returned (.tuple #[.int .i64 r1, .bool r2]) ∧ IsS26 w0 w' g s0_0 s0_1 s0_2 ∧ Below w0.heap.size w0 w' ∧ KeepBut w w' g none := by
  unfold hallmarkref04_result.f at h
  split at h
  rotate_left
  · cases h
  rename_i hok
  have hs : refS s0_0 s0_1 s0_2 a1_0 a1_4 a1_5 l2 = (r1, r2) := Option.some.inj h
  clear h
  obtain ⟨hL1, hL2, hx⟩ := hok
  obtain ⟨B0, d0, B1, d1, B2, d2, hb, hg, q0, q1, q2⟩ := id hI
  have hP : PA w g B0 d0 s0_0 B1 d1 s0_1 B2 d2 s0_2 := ⟨hb, Kd.C_below q0 hB, Kd.C_below q1 hB, Kd.C_below q2 hB⟩
  have post : ∀ w', Below w.heap.size w w' → IsS26 w0 w' g s0_0 s0_1 s0_2 ∧ Below w0.heap.size w0 w' ∧ KeepBut w w' g none := fun w' k => ⟨IsS26.below hI k, below_then hB hB.size k, KeepBut.of_below k g none⟩
  have fin : ∀ {args : Array Value} {t : Int} {b : Bool}, (t, b) = (r1, r2) → (Calls Tryd.prog 35 args w fun e w' => e = .returned (.tuple #[.int .i64 t, .bool b]) ∧ Below w.heap.size w w') → Calls Tryd.prog 35 args w fun e w' => e = .returned (.tuple #[.int .i64 r1, .bool r2]) ∧ IsS26 w0 w' g s0_0 s0_1 s0_2 ∧ Below w0.heap.size w0 w' ∧ KeepBut w w' g none := by
    intro args t b he hc
    injection he with h1 h2
    subst h1
    subst h2
    exact hc.mono fun e w' h' => ⟨h'.1, post w' h'.2⟩
  clear hI post hb hg q0 q1 q2
  have hR : 1 ≤ l2.length → -9223372036854775808 ≤ rd l2 0 ∧ rd l2 0 ≤ 9223372036854775807 := fun h1 => hx _ (at_mid l2 0 (by omega))
  have hU : okClass (rd l2 0) s0_1.length = true → ∃ u : Nat, rd l2 0 = (u : Int) + 6 ∧ u < s0_1.length := fun h1 => by
    have := of_decide_eq_true h1
    exact ⟨(rd l2 0 - 6).toNat, by omega, by omega⟩
  obtain ⟨want, t, b, hW, hbf⟩ := wants_some a1_0
  unfold refS at hs
  rw [hW] at hs
  have HW : Aside0 (hallmarkref04_wants.f 1 a1_0 = some (want, t, b)) := ⟨hW⟩
  cases b with
  | true =>
    dsimp only at hs
    cases hl : decide (l2 = want) with
    | false =>
      rw [hl] at hs
      exact fin (by rw [← hs]; simp) (refF g B0 d0 s0_0 B1 d1 s0_1 B2 d2 s0_2 a1_4 a1_1 a1_2 a1_3 a1_5 A1_6 c1_6 l1_6 a1_7 A2 c2 l2 w hP hr2 hc2 a1_0 t want HW ⟨hl⟩)
    | true =>
      rw [hl] at hs
      by_cases k1 : a1_0 = 1
      · subst k1
        by_cases z : a1_4 = 0
        · exact fin (by rw [← hs, z]; simp) (refT1a g B0 d0 s0_0 B1 d1 s0_1 B2 d2 s0_2 a1_4 a1_1 a1_2 a1_3 a1_5 A1_6 c1_6 l1_6 a1_7 A2 c2 l2 w hP hr2 hc2 t want HW ⟨hl⟩ (beq_iff_eq.mpr z))
        · by_cases z1 : a1_4 = 1
          · exact fin (by rw [← hs, z1]; simp) (refT1t g B0 d0 s0_0 B1 d1 s0_1 B2 d2 s0_2 a1_4 a1_1 a1_2 a1_3 a1_5 A1_6 c1_6 l1_6 a1_7 A2 c2 l2 w hP hr2 hc2 t want HW ⟨hl⟩ (beq_eq_false_iff_ne.mpr z) (beq_iff_eq.mpr z1))
          · exact fin (by rw [← hs]; simp [z, z1]) (refT1f g B0 d0 s0_0 B1 d1 s0_1 B2 d2 s0_2 a1_4 a1_1 a1_2 a1_3 a1_5 A1_6 c1_6 l1_6 a1_7 A2 c2 l2 w hP hr2 hc2 t want HW ⟨hl⟩ (beq_eq_false_iff_ne.mpr z) (beq_eq_false_iff_ne.mpr z1))
      by_cases k2 : a1_0 = 2
      · subst k2
        by_cases z : a1_5.size ≤ 64
        · exact fin (by rw [← hs]; simp [z]) (refT2t g B0 d0 s0_0 B1 d1 s0_1 B2 d2 s0_2 a1_4 a1_1 a1_2 a1_3 a1_5 A1_6 c1_6 l1_6 a1_7 A2 c2 l2 w hP hr2 hc2 t want HW ⟨hl⟩ (decide_eq_true z) (decide_eq_true (by omega)))
        · exact fin (by rw [← hs]; simp [z]) (refT2f g B0 d0 s0_0 B1 d1 s0_1 B2 d2 s0_2 a1_4 a1_1 a1_2 a1_3 a1_5 A1_6 c1_6 l1_6 a1_7 A2 c2 l2 w hP hr2 hc2 t want HW ⟨hl⟩ (decide_eq_false z) (decide_eq_false (by omega)))
      by_cases k12 : a1_0 = 12
      · subst k12
        cases z : decide (0 ≤ a1_4) with
        | false => exact fin (by rw [← hs]; simp [z]) (refT12a g B0 d0 s0_0 B1 d1 s0_1 B2 d2 s0_2 a1_4 a1_1 a1_2 a1_3 a1_5 A1_6 c1_6 l1_6 a1_7 A2 c2 l2 w hP hr2 hc2 t want HW ⟨hl⟩ z)
        | true => exact fin (by rw [← hs]; simp [z]) (refT12b g B0 d0 s0_0 B1 d1 s0_1 B2 d2 s0_2 a1_4 a1_1 a1_2 a1_3 a1_5 A1_6 c1_6 l1_6 a1_7 A2 c2 l2 w hP hr2 hc2 t want HW ⟨hl⟩ z _ rfl)
      exact fin (by rw [← hs]; simp [k1, k2, k12]) (refT g B0 d0 s0_0 B1 d1 s0_1 B2 d2 s0_2 a1_4 a1_1 a1_2 a1_3 a1_5 A1_6 c1_6 l1_6 a1_7 A2 c2 l2 w hP hr2 hc2 a1_0 t want HW ⟨hl⟩ (bne_iff_ne.mpr k1) (bne_iff_ne.mpr k2) (bne_iff_ne.mpr k12))
  | false =>
    obtain ⟨rfl, rfl⟩ := hbf rfl
    dsimp only at hs
    by_cases k3 : a1_0 = 3
    · subst k3
      cases z : decide (0 ≤ a1_4) with
      | false => exact fin (by rw [← hs]; simp [refN, z]) (ref3a g B0 d0 s0_0 B1 d1 s0_1 B2 d2 s0_2 a1_4 a1_1 a1_2 a1_3 a1_5 A1_6 c1_6 l1_6 a1_7 A2 c2 l2 w hP hr2 hc2 z)
      | true =>
        cases z1 : decide (a1_4 ≤ 13) with
        | false => exact fin (by rw [← hs]; simp [refN, z, z1]) (ref3b g B0 d0 s0_0 B1 d1 s0_1 B2 d2 s0_2 a1_4 a1_1 a1_2 a1_3 a1_5 A1_6 c1_6 l1_6 a1_7 A2 c2 l2 w hP hr2 hc2 z z1)
        | true => exact fin (by rw [← hs]; simp [refN, z, z1]) (ref3 g B0 d0 s0_0 B1 d1 s0_1 B2 d2 s0_2 a1_4 a1_1 a1_2 a1_3 a1_5 A1_6 c1_6 l1_6 a1_7 A2 c2 l2 w hP hr2 hc2 z z1)
    by_cases k25 : a1_0 = 25
    · subst k25
      have hl := hL1 (by simp)
      cases z : (rd l2 0 == 0) with
      | true => exact fin (by rw [← hs]; simp [refN, z]) (ref25a g B0 d0 s0_0 B1 d1 s0_1 B2 d2 s0_2 a1_4 a1_1 a1_2 a1_3 a1_5 A1_6 c1_6 l1_6 a1_7 A2 c2 l2 w hP hr2 hc2 _ rfl hl z)
      | false => exact fin (by rw [← hs]; simp [refN, z]) (ref25b g B0 d0 s0_0 B1 d1 s0_1 B2 d2 s0_2 a1_4 a1_1 a1_2 a1_3 a1_5 A1_6 c1_6 l1_6 a1_7 A2 c2 l2 w hP hr2 hc2 _ rfl hl z _ rfl)
    by_cases k22 : a1_0 = 22
    · subst k22
      have hl := hL1 (by simp)
      have hr := hR hl
      by_cases z : 6 ≤ rd l2 0
      · exact fin (by rw [← hs]; simp [refN, okClass, z]) (ref22b g B0 d0 s0_0 B1 d1 s0_1 B2 d2 s0_2 a1_4 a1_1 a1_2 a1_3 a1_5 A1_6 c1_6 l1_6 a1_7 A2 c2 l2 w hP hr2 hc2 (rd l2 0 - 6) (by omega) hl (by omega) (by omega) _ rfl)
      · exact fin (by rw [← hs]; simp [refN, okClass, z]) (ref22a g B0 d0 s0_0 B1 d1 s0_1 B2 d2 s0_2 a1_4 a1_1 a1_2 a1_3 a1_5 A1_6 c1_6 l1_6 a1_7 A2 c2 l2 w hP hr2 hc2 _ rfl hl (decide_eq_false z))
    by_cases k9 : a1_0 = 9
    · subst k9
      by_cases z : a1_4 < 0
      · exact fin (by rw [← hs]; simp [refN, show ¬ 0 ≤ a1_4 by omega]) (ref9a g B0 d0 s0_0 B1 d1 s0_1 B2 d2 s0_2 a1_4 a1_1 a1_2 a1_3 a1_5 A1_6 c1_6 l1_6 a1_7 A2 c2 l2 w hP hr2 hc2 (decide_eq_true z))
      · by_cases z1 : (s0_1.length : Int) ≤ a1_4
        · exact fin (by rw [← hs]; simp [refN, show ¬ a1_4 < (s0_1.length : Int) by omega]) (ref9b g B0 d0 s0_0 B1 d1 s0_1 B2 d2 s0_2 a1_4 a1_1 a1_2 a1_3 a1_5 A1_6 c1_6 l1_6 a1_7 A2 c2 l2 w hP hr2 hc2 (decide_eq_false z) (decide_eq_true z1))
        · exact fin (by rw [← hs]; simp [refN, show 0 ≤ a1_4 by omega, show a1_4 < (s0_1.length : Int) by omega]) (ref9 g B0 d0 s0_0 B1 d1 s0_1 B2 d2 s0_2 a1_4 a1_1 a1_2 a1_3 a1_5 A1_6 c1_6 l1_6 a1_7 A2 c2 l2 w hP hr2 hc2 ⟨by omega, by omega⟩)
    by_cases k10 : a1_0 = 10
    · subst k10
      have hl := hL1 (by simp)
      have hr := hR (by omega)
      by_cases z : rd l2 0 < 6
      · exact fin (by rw [← hs]; simp [refN, okClass, show ¬ 6 ≤ rd l2 0 by omega]) (ref10a g B0 d0 s0_0 B1 d1 s0_1 B2 d2 s0_2 a1_4 a1_1 a1_2 a1_3 a1_5 A1_6 c1_6 l1_6 a1_7 A2 c2 l2 w hP hr2 hc2 _ rfl (by omega) (decide_eq_true z))
      · by_cases zc : (s0_1.length : Int) ≤ rd l2 0 - 6
        · exact fin (by rw [← hs]; simp [refN, okClass, show ¬ rd l2 0 - 6 < (s0_1.length : Int) by omega]) (ref10b g B0 d0 s0_0 B1 d1 s0_1 B2 d2 s0_2 a1_4 a1_1 a1_2 a1_3 a1_5 A1_6 c1_6 l1_6 a1_7 A2 c2 l2 w hP hr2 hc2 (rd l2 0 - 6) (by omega) (by omega) (by omega) (by omega) (decide_eq_true zc))
        · have hT : okClass (rd l2 0) s0_1.length = true := decide_eq_true ⟨by omega, by omega⟩
          obtain ⟨u, h1, h2⟩ := hU hT
          have h3 : rd l2 0 - 6 = (u : Int) := by omega
          by_cases z1 : a1_4 < 0
          · exact fin (by rw [← hs]; simp [refN, hT, h3, show ¬ 0 ≤ a1_4 by omega]) (ref10c g B0 d0 s0_0 B1 d1 s0_1 B2 d2 s0_2 a1_4 a1_1 a1_2 a1_3 a1_5 A1_6 c1_6 l1_6 a1_7 A2 c2 l2 w hP hr2 hc2 u h1 h2 (by omega) (by omega) (decide_eq_true z1))
          · by_cases z2 : ((rd_T77 s0_1 (u : Int)).f0.length : Int) ≤ a1_4
            · exact fin (by rw [← hs]; simp [refN, hT, h3, show ¬ a1_4 < ((rd_T77 s0_1 (u : Int)).f0.length : Int) by omega]) (ref10d g B0 d0 s0_0 B1 d1 s0_1 B2 d2 s0_2 a1_4 a1_1 a1_2 a1_3 a1_5 A1_6 c1_6 l1_6 a1_7 A2 c2 l2 w hP hr2 hc2 u h1 h2 (by omega) (by omega) (decide_eq_false z1) (decide_eq_true z2))
            · exact fin (by rw [← hs]; simp [refN, hT, h3, show 0 ≤ a1_4 by omega, show a1_4 < ((rd_T77 s0_1 (u : Int)).f0.length : Int) by omega]) (ref10 g B0 d0 s0_0 B1 d1 s0_1 B2 d2 s0_2 a1_4 a1_1 a1_2 a1_3 a1_5 A1_6 c1_6 l1_6 a1_7 A2 c2 l2 w hP hr2 hc2 u h1 h2 (by omega) hl ⟨by omega, by omega⟩)
    by_cases k11 : a1_0 = 11
    · subst k11
      have hl := hL2 rfl
      have hr := hR (by omega)
      by_cases z : rd l2 0 < 6
      · exact fin (by rw [← hs]; simp [refN, okClass, show ¬ 6 ≤ rd l2 0 by omega]) (ref11a g B0 d0 s0_0 B1 d1 s0_1 B2 d2 s0_2 a1_4 a1_1 a1_2 a1_3 a1_5 A1_6 c1_6 l1_6 a1_7 A2 c2 l2 w hP hr2 hc2 _ rfl (by omega) (decide_eq_true z))
      · by_cases zc : (s0_1.length : Int) ≤ rd l2 0 - 6
        · exact fin (by rw [← hs]; simp [refN, okClass, show ¬ rd l2 0 - 6 < (s0_1.length : Int) by omega]) (ref11b g B0 d0 s0_0 B1 d1 s0_1 B2 d2 s0_2 a1_4 a1_1 a1_2 a1_3 a1_5 A1_6 c1_6 l1_6 a1_7 A2 c2 l2 w hP hr2 hc2 (rd l2 0 - 6) (by omega) (by omega) (by omega) (by omega) (decide_eq_true zc))
        · have hT : okClass (rd l2 0) s0_1.length = true := decide_eq_true ⟨by omega, by omega⟩
          obtain ⟨u, h1, h2⟩ := hU hT
          have h3 : rd l2 0 - 6 = (u : Int) := by omega
          by_cases z1 : a1_4 < 0
          · exact fin (by rw [← hs]; simp [refN, hT, h3, show ¬ 0 ≤ a1_4 by omega]) (ref11c g B0 d0 s0_0 B1 d1 s0_1 B2 d2 s0_2 a1_4 a1_1 a1_2 a1_3 a1_5 A1_6 c1_6 l1_6 a1_7 A2 c2 l2 w hP hr2 hc2 u h1 h2 (by omega) (by omega) (decide_eq_true z1))
          · by_cases z2 : ((rd_T77 s0_1 (u : Int)).f0.length : Int) ≤ a1_4
            · exact fin (by rw [← hs]; simp [refN, hT, h3, show ¬ a1_4 < ((rd_T77 s0_1 (u : Int)).f0.length : Int) by omega]) (ref11d g B0 d0 s0_0 B1 d1 s0_1 B2 d2 s0_2 a1_4 a1_1 a1_2 a1_3 a1_5 A1_6 c1_6 l1_6 a1_7 A2 c2 l2 w hP hr2 hc2 u h1 h2 (by omega) (by omega) (decide_eq_false z1) (decide_eq_true z2))
            · exact fin (by rw [← hs]; simp [refN, hT, h3, show 0 ≤ a1_4 by omega, show a1_4 < ((rd_T77 s0_1 (u : Int)).f0.length : Int) by omega]) (ref11 g B0 d0 s0_0 B1 d1 s0_1 B2 d2 s0_2 a1_4 a1_1 a1_2 a1_3 a1_5 A1_6 c1_6 l1_6 a1_7 A2 c2 l2 w hP hr2 hc2 u h1 h2 (by omega) hl _ rfl ⟨by omega, by omega⟩)
    by_cases k23 : a1_0 = 23
    · subst k23
      by_cases z : a1_4 < 0
      · exact fin (by rw [← hs]; simp [refN, show ¬ 0 ≤ a1_4 by omega]) (ref23a g B0 d0 s0_0 B1 d1 s0_1 B2 d2 s0_2 a1_4 a1_1 a1_2 a1_3 a1_5 A1_6 c1_6 l1_6 a1_7 A2 c2 l2 w hP hr2 hc2 (decide_eq_true z))
      · by_cases z1 : (s0_2.length : Int) ≤ a1_4
        · exact fin (by rw [← hs]; simp [refN, show ¬ a1_4 < (s0_2.length : Int) by omega]) (ref23b g B0 d0 s0_0 B1 d1 s0_1 B2 d2 s0_2 a1_4 a1_1 a1_2 a1_3 a1_5 A1_6 c1_6 l1_6 a1_7 A2 c2 l2 w hP hr2 hc2 (decide_eq_false z) (decide_eq_true z1))
        · by_cases z2 : (rd_T66 s0_2 a1_4).f1.length = 0
          · exact fin (by rw [← hs]; simp only [refN, Int.reduceEq, or_self, ↓reduceIte]; rw [if_pos ⟨by omega, by omega⟩, if_pos z2]) (ref23c g B0 d0 s0_0 B1 d1 s0_1 B2 d2 s0_2 a1_4 a1_1 a1_2 a1_3 a1_5 A1_6 c1_6 l1_6 a1_7 A2 c2 l2 w hP hr2 hc2 ⟨by omega, by omega⟩ z2)
          · exact fin (by rw [← hs]; simp only [refN, Int.reduceEq, or_self, ↓reduceIte]; rw [if_pos ⟨by omega, by omega⟩, if_neg z2]) (ref23 g B0 d0 s0_0 B1 d1 s0_1 B2 d2 s0_2 a1_4 a1_1 a1_2 a1_3 a1_5 A1_6 c1_6 l1_6 a1_7 A2 c2 l2 w hP hr2 hc2 ⟨by omega, by omega⟩ (by omega))
    by_cases k24 : a1_0 = 24
    · subst k24
      have hl := hL1 (by simp)
      by_cases z : a1_4 < 0
      · exact fin (by rw [← hs]; simp [refN, show ¬ 0 ≤ a1_4 by omega]) (ref24a g B0 d0 s0_0 B1 d1 s0_1 B2 d2 s0_2 a1_4 a1_1 a1_2 a1_3 a1_5 A1_6 c1_6 l1_6 a1_7 A2 c2 l2 w hP hr2 hc2 (decide_eq_true z))
      · by_cases z1 : (s0_0.length : Int) ≤ a1_4
        · exact fin (by rw [← hs]; simp [refN, show ¬ a1_4 < (s0_0.length : Int) by omega]) (ref24b g B0 d0 s0_0 B1 d1 s0_1 B2 d2 s0_2 a1_4 a1_1 a1_2 a1_3 a1_5 A1_6 c1_6 l1_6 a1_7 A2 c2 l2 w hP hr2 hc2 (decide_eq_false z) (decide_eq_true z1))
        · by_cases z2 : rd l2 0 = 5
          · exact fin (by rw [← hs]; simp only [refN, Int.reduceEq, or_self, ↓reduceIte]; rw [if_pos ⟨by omega, by omega⟩, if_pos z2]) (ref24 g B0 d0 s0_0 B1 d1 s0_1 B2 d2 s0_2 a1_4 a1_1 a1_2 a1_3 a1_5 A1_6 c1_6 l1_6 a1_7 A2 c2 l2 w hP hr2 hc2 ⟨by omega, by omega⟩ _ rfl hl (bne_eq_false_iff_eq.mpr z2))
          · exact fin (by rw [← hs]; simp only [refN, Int.reduceEq, or_self, ↓reduceIte]; rw [if_pos ⟨by omega, by omega⟩, if_neg z2]) (ref24c g B0 d0 s0_0 B1 d1 s0_1 B2 d2 s0_2 a1_4 a1_1 a1_2 a1_3 a1_5 A1_6 c1_6 l1_6 a1_7 A2 c2 l2 w hP hr2 hc2 ⟨by omega, by omega⟩ _ rfl hl (bne_iff_ne.mpr z2))
    exact fin (by rw [← hs]; simp [refN, k3, k25, k22, k9, k10, k11, k23, k24]) (refno g B0 d0 s0_0 B1 d1 s0_1 B2 d2 s0_2 a1_4 a1_1 a1_2 a1_3 a1_5 A1_6 c1_6 l1_6 a1_7 A2 c2 l2 w hP hr2 hc2 a1_0 HW k3 k25 k22 k9 k10 k11 k23 k24)

end Go.Proofs.YtbjdiaefchcbjaaDoor.PKindResults
