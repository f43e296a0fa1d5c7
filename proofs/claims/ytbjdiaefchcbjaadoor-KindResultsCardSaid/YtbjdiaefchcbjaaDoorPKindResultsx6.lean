-- written by wip/print2.py
import Derived.Test.YtbjdiaefchcbjaaDoorPKindResultsx0
import Derived.Test.YtbjdiaefchcbjaaDoorPKindResultsx5
namespace Go.Proofs.YtbjdiaefchcbjaaDoor.PKindResults
open Go.RowKit Go.Proofs.YtbjdiaefchcbjaaDoorW.PrintWords Go.Proofs.YtbjdiaefchcbjaaDoorW.PrintLast Go.Proofs.YtbjdiaefchcbjaaDoorW.PrintMore
attribute [local go_sem] max2_int min2_int max_two min_two max_three min_three max_four min_four   -- for this text's walks alone
set_option linter.unusedVariables false
set_option linter.unusedSimpArgs false

/-! ### kind_memory: function 43 -/
theorem quiet_sum {P : Program} {f : FuncId} {args : Array Value} {W : World} {n m : Nat} {v : Value} (h : Calls P f args (W.drewN (n + m)) fun e w' => e = .returned v ∧ ∃ k, w' = (W.drewN (n + m)).drewN k) : Calls P f args (W.drewN (n + m)) fun e w'' => e = .returned v ∧ ∃ k, w'' = W.drewN (n + k) :=
  h.mono fun _ _ ⟨he, k, hk⟩ => ⟨he, m + k, by rw [hk, World.drewN_drewN, Nat.add_assoc]⟩
theorem quiet_sum2 {P : Program} {f : FuncId} {args : Array Value} {W : World} {n j m : Nat} {v : Value} (h : Calls P f args (W.drewN (n + (j + m))) fun e w' => e = .returned v ∧ ∃ k, w' = (W.drewN (n + (j + m))).drewN k) : Calls P f args (W.drewN (n + (j + m))) fun e w'' => e = .returned v ∧ ∃ k, w'' = W.drewN (n + (j + k)) :=
  h.mono fun _ _ ⟨he, k, hk⟩ => ⟨he, m + k, by rw [hk, World.drewN_drewN]; congr 1; omega⟩
theorem res_rd (l : List Int) (i : Nat) (h : i < l.length) : rd l (i : Int) = l[i] := by unfold rd; simp [h]
theorem res_w (j : Nat) (n : Nat) (h : j < n) (hn : n ≤ 9223372036854775807) : wrap64 ((j : Int) + 1) = ((j + 1 : Nat) : Int) := by unfold wrap64; omega
theorem res_eq (a b : List Int) (hab : a.length = b.length) (hn : a.length ≤ 9223372036854775807) : ∀ (d j k : Nat), d + j = a.length → d < k → slices_Equal_int_int.l0 k a b (a.length : Int) (j : Int) = some (decide (a.drop j = b.drop j)) := by
  intro d
  induction d with
  | zero =>
    intro j k hd hk
    obtain ⟨k, rfl⟩ : ∃ m, k = m + 1 := ⟨k - 1, by omega⟩
    rw [slices_Equal_int_int.l0, if_neg (by omega), List.drop_eq_nil_of_le (by omega), List.drop_eq_nil_of_le (by omega)]
    rfl
  | succ d ih =>
    intro j k hd hk
    obtain ⟨k, rfl⟩ : ∃ m, k = m + 1 := ⟨k - 1, by omega⟩
    have ha : j < a.length := by omega
    have hb : j < b.length := by omega
    rw [slices_Equal_int_int.l0, if_pos (by omega), if_pos (by omega), if_pos (by omega), if_pos (by omega), res_rd a j ha, res_rd b j hb, List.drop_eq_getElem_cons ha, List.drop_eq_getElem_cons hb]
    by_cases e : a[j] = b[j]
    · rw [if_pos e, res_w j a.length ha hn, ih (j + 1) k (by omega) (by omega)]
      exact congrArg some (decide_eq_decide.2 ⟨fun h => by rw [h, e], fun h => (List.cons.inj h).2⟩)
    · rw [if_neg e, decide_eq_false (fun h => e (List.cons.inj h).1)]
theorem res_equal (a b : List Int) (hn : a.length ≤ 9223372036854775807) : slices_Equal_int_int.f (a.length + 1) a b = some (decide (a = b)) := by
  unfold slices_Equal_int_int.f
  by_cases h : a.length = b.length
  · rw [if_pos (by omega)]
    have := res_eq a b h hn a.length 0 (a.length + 1) (by omega) (by omega)
    rw [List.drop_zero, List.drop_zero] at this
    exact this
  · rw [if_neg (by omega), decide_eq_false (fun e => h (by rw [e]))]
theorem equal_calls (A : Option Addr) (c : Nat) (l : List Int) (A' : Option Addr) (c' : Nat) (l' : List Int) (X : World) (h1 : Kd.C (Kd.int .i64) X A l.length l) (h2 : l.length ≤ c) (h3 : Kd.C (Kd.int .i64) X A' l'.length l') (h4 : l'.length ≤ c') :
    Calls Tryd.prog 42 #[.slice A l.length c, .slice A' l'.length c'] X fun e w' => e = .returned (.bool (decide (l = l'))) ∧ Drawn0 X w' :=
  slices_Equal_int_int.calls (l.length + 1) A c l A' c' l' _ X h1 h2 h3 h4 (res_equal l l' (Kd.C_max h1))
theorem is_calls (A : Option Addr) (c : Nat) (l : List Int) (A' : Option Addr) (n' c' : Nat) (l' : List Int) (hn : n' = l'.length) (X : World) (h1 : Kd.C (Kd.int .i64) X A l.length l) (h2 : l.length ≤ c) (h3 : Kd.C (Kd.int .i64) X A' n' l') (h4 : n' ≤ c') :
    Calls Tryd.prog 41 #[.slice A l.length c, .slice A' n' c'] X fun e w' => e = .returned (.bool (decide (l = l'))) ∧ Drawn0 X w' := by
  subst hn
  exact kind_is.calls (l.length + 1) A c l A' c' l' _ X h1 h2 h3 h4 (by unfold kind_is.f; rw [res_equal l l' (Kd.C_max h1)]; rfl)
def inside (n m : Int) : Bool := decide (0 ≤ n ∧ n < m)
theorem within_calls (n m : Int) (X : World) : Calls Tryd.prog 39 #[.int .i64 n, .int .i64 m] X fun e w' => e = .returned (.bool (inside n m)) ∧ Drawn0 X w' :=
  kind_within.calls n m _ X (by
    unfold kind_within.f inside
    by_cases h : n ≥ 0
    · rw [if_pos h]; simp only [Option.some.injEq]; rw [decide_eq_decide]; omega
    · rw [if_neg h, decide_eq_false (by omega)])
theorem litR (W : World) (vs : List Int) (h : vs.length ≤ 100) : Kd.C (Kd.int .i64) (W.alloc (.cells (vs.map fun x => Value.int .i64 x).toArray 3)) (some ⟨W.heap.size, 0, none⟩) vs.length vs := by
  have h := World.ownsRow_lit (base := 0) (e := 3) (size := 1) W (vs.map fun x => Value.int .i64 x).toArray vs.length (Nat.zero_le _) (by simp [maxLen]; omega) (by simp)
  exact (Kd.R_reads' (Kd.R_of_own (enc := fun x : Int => Value.int .i64 x) (h1 := fun _ => rfl) (xs := vs) (ok := fun _ => True) h (fun _ _ => trivial))).2.2
/-- A program in memory. -/
structure PA (w : World) (g : Nat) (B0 : Option Addr) (d0 : Nat) (s0_0 : List S73) (B1 : Option Addr) (d1 : Nat) (s0_1 : List S77) (B2 : Option Addr) (d2 : Nat) (s0_2 : List S66) : Prop where
  b : w.heap[g]? = some (.cells #[.slice B0 s0_0.length d0, .slice B1 s0_1.length d1, .slice B2 s0_2.length d2] 26 (0, 0))
  r0 : Kd.C k73 w B0 s0_0.length s0_0
  r1 : Kd.C k77 w B1 s0_1.length s0_1
  r2 : Kd.C k66 w B2 s0_2.length s0_2
theorem PA.below {w w1 : World} {g : Nat} {B0 : Option Addr} {d0 : Nat} {s0_0 : List S73} {B1 : Option Addr} {d1 : Nat} {s0_1 : List S77} {B2 : Option Addr} {d2 : Nat} {s0_2 : List S66} (h : PA w g B0 d0 s0_0 B1 d1 s0_1 B2 d2 s0_2) (hb : Below w.heap.size w w1) : PA w1 g B0 d0 s0_0 B1 d1 s0_1 B2 d2 s0_2 :=
  ⟨blk_below h.b hb, Kd.C_below h.r0 hb, Kd.C_below h.r1 hb, Kd.C_below h.r2 hb⟩
def okClass (t : Int) (n : Nat) : Bool := decide (6 ≤ t ∧ t - 6 < (n : Int))
set_option maxHeartbeats 1000000 in
set_option maxRecDepth 100000 in
theorem classOf_no (t : Int) (ht : -9223372036854775808 ≤ t ∧ t ≤ 9223372036854775807) (g n d : Nat) (B : Option Addr) (h : okClass t n = false) (X : World) (hc : X.cell? ⟨g, 1, none⟩ = some (.slice B n d)) :
    Calls Tryd.prog 48 #[.pointer (some ⟨g, 0, none⟩), .int .i64 t] X fun e w' => e = .returned (.pointer none) ∧ Drawn0 X w' := by
  have h' := of_decide_eq_false h
  by_cases h0 : t < 6
  · have b0 := decide_eq_true h0
    clear ht h h'
    go_enter Tryd.func48, Tryd.ntmps48
    go_wp2
    go_ret
    exact ⟨rfl, Drawn0.refl X⟩
  · have b0 := decide_eq_false h0
    obtain ⟨u, rfl⟩ : ∃ u : Int, t = u + 6 := ⟨t - 6, by omega⟩
    have b2 : wrap64 u = u := by unfold wrap64; omega
    have b3 : (u ≥ (n : Int)) = True := eq_true (by omega)
    have b4 : ((n : Int) ≤ u) = True := eq_true (by omega)
    clear ht h h' h0
    go_enter Tryd.func48, Tryd.ntmps48
    go_wp2
    go_ret
    exact ⟨rfl, Drawn0.refl X⟩
set_option maxHeartbeats 1000000 in
set_option maxRecDepth 100000 in
theorem classOf_is (u : Nat) (hu : u + 6 ≤ 9223372036854775807) (g n d : Nat) (ad : Addr) (h : u < n) (X : World) (hc : X.cell? ⟨g, 1, none⟩ = some (.slice (some ad) n d)) :
    Calls Tryd.prog 48 #[.pointer (some ⟨g, 0, none⟩), .int .i64 ((u : Int) + 6)] X fun e w' => e = .returned (.pointer (some (ad.add (u * 2)))) ∧ Drawn0 X w' := by
  have b0 := decide_eq_false (show ¬ (u : Int) + 6 < 6 by omega)
  have b2 : wrap64 (u : Int) = (u : Int) := by unfold wrap64; omega
  have b3 : ((u : Int) ≥ (n : Int)) = False := eq_false (by omega)
  have b4 : ((n : Int) ≤ (u : Int)) = False := eq_false (by omega)
  have b5 : ((u : Int) < (n : Int)) = True := eq_true (by omega)
  have b6 : (0 ≤ (u : Int)) = True := eq_true (by omega)
  clear hu
  go_enter Tryd.func48, Tryd.ntmps48
  go_wp2
  go_ret
  exact ⟨rfl, Drawn0.refl X⟩
set_option maxHeartbeats 2000000 in
set_option maxRecDepth 100000 in
theorem mem9no (g : Nat) (B0 : Option Addr) (d0 : Nat) (s0_0 : List S73) (B1 : Option Addr) (d1 : Nat) (s0_1 : List S77) (B2 : Option Addr) (d2 : Nat) (s0_2 : List S66) (n a1_1 a1_2 a1_3 : Int) (a1_5 : ByteArray) (A1_6 : Option Addr) (c1_6 : Nat) (l1_6 : List Int) (a1_7 : Bool) (A2 : Option Addr) (c2 : Nat) (l2 : List Int) (w : World) (hP : PA w g B0 d0 s0_0 B1 d1 s0_1 B2 d2 s0_2) (hr2 : Kd.C (Kd.int .i64) w A2 l2.length l2) (hc2 : l2.length ≤ c2) (hN : inside n (s0_1.length : Int) = false) :
    Calls Tryd.prog 43 #[.pointer (some ⟨g, 0, none⟩), .agg #[.int .i64 9, .int .i64 a1_1, .int .i64 a1_2, .int .i64 a1_3, .int .i64 n, .string a1_5, .slice A1_6 l1_6.length c1_6, .bool a1_7], .slice A2 l2.length c2] w fun e w' => e = .returned (.tuple #[.int .i64 (0), .bool (false)]) ∧ Below w.heap.size w w' := by
  obtain ⟨W1, hW1⟩ : ∃ W1, w.alloc (.cells #[.int .i64 9, .int .i64 a1_1, .int .i64 a1_2, .int .i64 a1_3, .int .i64 n, .string a1_5, .slice A1_6 l1_6.length c1_6, .bool a1_7] 33) = W1 := ⟨_, rfl⟩
  have hb1 : Below w.heap.size w W1 := by rw [← hW1]; exact below_alloc (Below.refl _ _) _
  have hB1 : W1.heap[w.heap.size]? = some (.cells #[.int .i64 9, .int .i64 a1_1, .int .i64 a1_2, .int .i64 a1_3, .int .i64 n, .string a1_5, .slice A1_6 l1_6.length c1_6, .bool a1_7] 33 (0, 0)) := by rw [← hW1]; exact heap_alloc_new w _
  have HP := Aside0.mk (hP.below hb1)
  have HR := Aside0.mk (Kd.C_below hr2 hb1)
  have HC := Aside0.mk hc2
  have HB := Aside0.mk hb1
  have o0 : W1.cell? ⟨w.heap.size, 0, none⟩ = some (.int .i64 9) := (blk_cell hB1 0).trans rfl
  have o4 : W1.cell? ⟨w.heap.size, 4, none⟩ = some (.int .i64 n) := (blk_cell hB1 4).trans rfl
  have o5 : W1.cell? ⟨w.heap.size, 5, none⟩ = some (.string a1_5) := (blk_cell hB1 5).trans rfl
  have p0 : W1.cell? ⟨g, 0, none⟩ = some (.slice B0 s0_0.length d0) := (blk_cell HP.out.b 0).trans rfl
  have p1 : W1.cell? ⟨g, 1, none⟩ = some (.slice B1 s0_1.length d1) := (blk_cell HP.out.b 1).trans rfl
  have p2 : W1.cell? ⟨g, 2, none⟩ = some (.slice B2 s0_2.length d2) := (blk_cell HP.out.b 2).trans rfl
  clear hP hr2 hc2 hb1 hB1
  have e1 := hN
  go_enter Tryd.func43, Tryd.ntmps43
  go_wp2
  go_quiet ((go_at_call 39; (first | refine Calls.quiet_of (v := .bool (inside n (s0_1.length : Int))) ?_ | refine quiet_sum (v := .bool (inside n (s0_1.length : Int))) ?_ | refine quiet_sum2 (v := .bool (inside n (s0_1.length : Int))) ?_); (with_reducible refine (within_calls n (s0_1.length : Int) _).mono ?_); rintro e Z2 ⟨he, ⟨hd⟩⟩; exact ⟨he, hd⟩))
  go_wp2
  go_ret2
  exact ⟨by first | rfl | (simp only [i64_w]; done) | (simp only [i64_w]; rfl) | (simp [*]; done), by repeat (first | exact HB.out | apply pw_below_drewN | apply below_alloc)⟩

set_option maxHeartbeats 2000000 in
set_option maxRecDepth 100000 in
theorem mem9 (g : Nat) (B0 : Option Addr) (d0 : Nat) (s0_0 : List S73) (B1 : Option Addr) (d1 : Nat) (s0_1 : List S77) (B2 : Option Addr) (d2 : Nat) (s0_2 : List S66) (n a1_1 a1_2 a1_3 : Int) (a1_5 : ByteArray) (A1_6 : Option Addr) (c1_6 : Nat) (l1_6 : List Int) (a1_7 : Bool) (A2 : Option Addr) (c2 : Nat) (l2 : List Int) (w : World) (hP : PA w g B0 d0 s0_0 B1 d1 s0_1 B2 d2 s0_2) (hr2 : Kd.C (Kd.int .i64) w A2 l2.length l2) (hc2 : l2.length ≤ c2) (hN : inside n (s0_1.length : Int) = true) :
    Calls Tryd.prog 43 #[.pointer (some ⟨g, 0, none⟩), .agg #[.int .i64 9, .int .i64 a1_1, .int .i64 a1_2, .int .i64 a1_3, .int .i64 n, .string a1_5, .slice A1_6 l1_6.length c1_6, .bool a1_7], .slice A2 l2.length c2] w fun e w' => e = .returned (.tuple #[.int .i64 (wrap64 (6 + n)), .bool (decide (l2 = (rd_T77 s0_1 n).f0))]) ∧ Below w.heap.size w w' := by
  obtain ⟨m, rfl⟩ := Int.eq_ofNat_of_zero_le (of_decide_eq_true hN).1
  obtain ⟨ad, Af, cf, Ag, cg, eB, hx0, hx1, hl0, hg0, hl1, hg1⟩ := at_T77 hP.r1 (m : Int) (by omega) (of_decide_eq_true hN).2
  subst eB
  rw [Int.toNat_natCast] at hx0 hx1
  obtain ⟨W1, hW1⟩ : ∃ W1, w.alloc (.cells #[.int .i64 9, .int .i64 a1_1, .int .i64 a1_2, .int .i64 a1_3, .int .i64 (m : Int), .string a1_5, .slice A1_6 l1_6.length c1_6, .bool a1_7] 33) = W1 := ⟨_, rfl⟩
  have hb1 : Below w.heap.size w W1 := by rw [← hW1]; exact below_alloc (Below.refl _ _) _
  have hB1 : W1.heap[w.heap.size]? = some (.cells #[.int .i64 9, .int .i64 a1_1, .int .i64 a1_2, .int .i64 a1_3, .int .i64 (m : Int), .string a1_5, .slice A1_6 l1_6.length c1_6, .bool a1_7] 33 (0, 0)) := by rw [← hW1]; exact heap_alloc_new w _
  have HP := Aside0.mk (hP.below hb1)
  have HR := Aside0.mk (Kd.C_below hr2 hb1)
  have HC := Aside0.mk hc2
  have HB := Aside0.mk hb1
  have o0 : W1.cell? ⟨w.heap.size, 0, none⟩ = some (.int .i64 9) := (blk_cell hB1 0).trans rfl
  have o4 : W1.cell? ⟨w.heap.size, 4, none⟩ = some (.int .i64 (m : Int)) := (blk_cell hB1 4).trans rfl
  have o5 : W1.cell? ⟨w.heap.size, 5, none⟩ = some (.string a1_5) := (blk_cell hB1 5).trans rfl
  have p0 : W1.cell? ⟨g, 0, none⟩ = some (.slice B0 s0_0.length d0) := (blk_cell HP.out.b 0).trans rfl
  have p1 : W1.cell? ⟨g, 1, none⟩ = some (.slice (some ad) s0_1.length d1) := (blk_cell HP.out.b 1).trans rfl
  have p2 : W1.cell? ⟨g, 2, none⟩ = some (.slice B2 s0_2.length d2) := (blk_cell HP.out.b 2).trans rfl
  clear hP hr2 hc2 hb1 hB1
  have HX := Aside0.mk (Kd.C_below hg0 HB.out)
  have HXC := Aside0.mk hl0
  have x0 := (HB.out.cell (World.block_lt_of_cell? w _ hx0)).trans hx0
  have i1 : ((m : Int) < (s0_1.length : Int)) = True := eq_true (of_decide_eq_true hN).2
  have i2 : (m < s0_1.length) = True := eq_true (by have := (of_decide_eq_true hN).2; omega)
  clear hg0 hl0 hx0 hx1 hl1 hg1
  go_enter Tryd.func43, Tryd.ntmps43
  go_wp2
  go_quiet ((go_at_call 39; (first | refine Calls.quiet_of (v := .bool (inside (m : Int) (s0_1.length : Int))) ?_ | refine quiet_sum (v := .bool (inside (m : Int) (s0_1.length : Int))) ?_ | refine quiet_sum2 (v := .bool (inside (m : Int) (s0_1.length : Int))) ?_); (with_reducible refine (within_calls (m : Int) (s0_1.length : Int) _).mono ?_); rintro e Z2 ⟨he, ⟨hd⟩⟩; exact ⟨he, hd⟩))
  go_wp2
  go_quiet ((go_at_call 42; (first | refine Calls.quiet_of (v := .bool (decide (l2 = (rd_T77 s0_1 (m : Int)).f0))) ?_ | refine quiet_sum (v := .bool (decide (l2 = (rd_T77 s0_1 (m : Int)).f0))) ?_ | refine quiet_sum2 (v := .bool (decide (l2 = (rd_T77 s0_1 (m : Int)).f0))) ?_); (with_reducible refine (equal_calls A2 c2 l2 _ _ (rd_T77 s0_1 (m : Int)).f0 _ (Kd.C_drewN HR.out _) HC.out (Kd.C_drewN HX.out _) HXC.out).mono ?_); rintro e Z2 ⟨he, ⟨hd⟩⟩; exact ⟨he, hd⟩))
  go_wp2
  go_ret2
  exact ⟨by first | rfl | (simp only [i64_w]; done) | (simp only [i64_w]; rfl) | (simp [*]; done), by repeat (first | exact HB.out | apply pw_below_drewN | apply below_alloc)⟩

set_option maxHeartbeats 2000000 in
set_option maxRecDepth 100000 in
theorem mem12 (g : Nat) (B0 : Option Addr) (d0 : Nat) (s0_0 : List S73) (B1 : Option Addr) (d1 : Nat) (s0_1 : List S77) (B2 : Option Addr) (d2 : Nat) (s0_2 : List S66) (n a1_1 a1_2 a1_3 : Int) (a1_5 : ByteArray) (A1_6 : Option Addr) (c1_6 : Nat) (l1_6 : List Int) (a1_7 : Bool) (A2 : Option Addr) (c2 : Nat) (l2 : List Int) (w : World) (hP : PA w g B0 d0 s0_0 B1 d1 s0_1 B2 d2 s0_2) (hr2 : Kd.C (Kd.int .i64) w A2 l2.length l2) (hc2 : l2.length ≤ c2) :
    Calls Tryd.prog 43 #[.pointer (some ⟨g, 0, none⟩), .agg #[.int .i64 12, .int .i64 a1_1, .int .i64 a1_2, .int .i64 a1_3, .int .i64 n, .string a1_5, .slice A1_6 l1_6.length c1_6, .bool a1_7], .slice A2 l2.length c2] w fun e w' => e = .returned (.tuple #[.int .i64 (3), .bool (inside n 129)]) ∧ Below w.heap.size w w' := by
  obtain ⟨W1, hW1⟩ : ∃ W1, w.alloc (.cells #[.int .i64 12, .int .i64 a1_1, .int .i64 a1_2, .int .i64 a1_3, .int .i64 n, .string a1_5, .slice A1_6 l1_6.length c1_6, .bool a1_7] 33) = W1 := ⟨_, rfl⟩
  have hb1 : Below w.heap.size w W1 := by rw [← hW1]; exact below_alloc (Below.refl _ _) _
  have hB1 : W1.heap[w.heap.size]? = some (.cells #[.int .i64 12, .int .i64 a1_1, .int .i64 a1_2, .int .i64 a1_3, .int .i64 n, .string a1_5, .slice A1_6 l1_6.length c1_6, .bool a1_7] 33 (0, 0)) := by rw [← hW1]; exact heap_alloc_new w _
  have HP := Aside0.mk (hP.below hb1)
  have HR := Aside0.mk (Kd.C_below hr2 hb1)
  have HC := Aside0.mk hc2
  have HB := Aside0.mk hb1
  have o0 : W1.cell? ⟨w.heap.size, 0, none⟩ = some (.int .i64 12) := (blk_cell hB1 0).trans rfl
  have o4 : W1.cell? ⟨w.heap.size, 4, none⟩ = some (.int .i64 n) := (blk_cell hB1 4).trans rfl
  have o5 : W1.cell? ⟨w.heap.size, 5, none⟩ = some (.string a1_5) := (blk_cell hB1 5).trans rfl
  have p0 : W1.cell? ⟨g, 0, none⟩ = some (.slice B0 s0_0.length d0) := (blk_cell HP.out.b 0).trans rfl
  have p1 : W1.cell? ⟨g, 1, none⟩ = some (.slice B1 s0_1.length d1) := (blk_cell HP.out.b 1).trans rfl
  have p2 : W1.cell? ⟨g, 2, none⟩ = some (.slice B2 s0_2.length d2) := (blk_cell HP.out.b 2).trans rfl
  clear hP hr2 hc2 hb1 hB1
  go_enter Tryd.func43, Tryd.ntmps43
  go_wp2_with (first | (go_at_call 39; (with_reducible refine (within_calls n 129 _).mono ?_); rintro e Z2 ⟨rfl, ⟨nd, rfl⟩⟩))
  go_ret2
  exact ⟨by first | rfl | (simp only [i64_w]; done) | (simp only [i64_w]; rfl) | (simp [*]; done), by repeat (first | exact HB.out | apply pw_below_drewN | apply below_alloc)⟩

set_option maxHeartbeats 2000000 in
set_option maxRecDepth 100000 in
theorem mem13 (g : Nat) (B0 : Option Addr) (d0 : Nat) (s0_0 : List S73) (B1 : Option Addr) (d1 : Nat) (s0_1 : List S77) (B2 : Option Addr) (d2 : Nat) (s0_2 : List S66) (n a1_1 a1_2 a1_3 : Int) (a1_5 : ByteArray) (A1_6 : Option Addr) (c1_6 : Nat) (l1_6 : List Int) (a1_7 : Bool) (A2 : Option Addr) (c2 : Nat) (l2 : List Int) (w : World) (hP : PA w g B0 d0 s0_0 B1 d1 s0_1 B2 d2 s0_2) (hr2 : Kd.C (Kd.int .i64) w A2 l2.length l2) (hc2 : l2.length ≤ c2) :
    Calls Tryd.prog 43 #[.pointer (some ⟨g, 0, none⟩), .agg #[.int .i64 13, .int .i64 a1_1, .int .i64 a1_2, .int .i64 a1_3, .int .i64 n, .string a1_5, .slice A1_6 l1_6.length c1_6, .bool a1_7], .slice A2 l2.length c2] w fun e w' => e = .returned (.tuple #[.int .i64 (3), .bool (decide (l2 = [0]))]) ∧ Below w.heap.size w w' := by
  obtain ⟨W1, hW1⟩ : ∃ W1, w.alloc (.cells #[.int .i64 13, .int .i64 a1_1, .int .i64 a1_2, .int .i64 a1_3, .int .i64 n, .string a1_5, .slice A1_6 l1_6.length c1_6, .bool a1_7] 33) = W1 := ⟨_, rfl⟩
  have hb1 : Below w.heap.size w W1 := by rw [← hW1]; exact below_alloc (Below.refl _ _) _
  have hB1 : W1.heap[w.heap.size]? = some (.cells #[.int .i64 13, .int .i64 a1_1, .int .i64 a1_2, .int .i64 a1_3, .int .i64 n, .string a1_5, .slice A1_6 l1_6.length c1_6, .bool a1_7] 33 (0, 0)) := by rw [← hW1]; exact heap_alloc_new w _
  have HP := Aside0.mk (hP.below hb1)
  have HR := Aside0.mk (Kd.C_below hr2 hb1)
  have HC := Aside0.mk hc2
  have HB := Aside0.mk hb1
  have o0 : W1.cell? ⟨w.heap.size, 0, none⟩ = some (.int .i64 13) := (blk_cell hB1 0).trans rfl
  have o4 : W1.cell? ⟨w.heap.size, 4, none⟩ = some (.int .i64 n) := (blk_cell hB1 4).trans rfl
  have o5 : W1.cell? ⟨w.heap.size, 5, none⟩ = some (.string a1_5) := (blk_cell hB1 5).trans rfl
  have p0 : W1.cell? ⟨g, 0, none⟩ = some (.slice B0 s0_0.length d0) := (blk_cell HP.out.b 0).trans rfl
  have p1 : W1.cell? ⟨g, 1, none⟩ = some (.slice B1 s0_1.length d1) := (blk_cell HP.out.b 1).trans rfl
  have p2 : W1.cell? ⟨g, 2, none⟩ = some (.slice B2 s0_2.length d2) := (blk_cell HP.out.b 2).trans rfl
  clear hP hr2 hc2 hb1 hB1
  have HL := Aside0.mk (show Kd.C (Kd.int .i64) (W1.alloc (.cells #[.int .i64 0] 3)) (some ⟨W1.heap.size, 0, none⟩) 1 [0] from litR W1 [0] (by simp))
  go_enter Tryd.func43, Tryd.ntmps43
  go_wp2_with (first | (go_at_call 41; (with_reducible refine (is_calls A2 c2 l2 _ 1 _ [0] rfl _ (Kd.C_alloc HR.out _) HC.out HL.out (Nat.le_refl _)).mono ?_); rintro e Z2 ⟨rfl, ⟨nd, rfl⟩⟩))
  go_ret2
  exact ⟨by first | rfl | (simp only [i64_w]; done) | (simp only [i64_w]; rfl) | (simp [*]; done), by repeat (first | exact HB.out | apply pw_below_drewN | apply below_alloc)⟩

set_option maxHeartbeats 2000000 in
set_option maxRecDepth 100000 in
theorem mem14 (g : Nat) (B0 : Option Addr) (d0 : Nat) (s0_0 : List S73) (B1 : Option Addr) (d1 : Nat) (s0_1 : List S77) (B2 : Option Addr) (d2 : Nat) (s0_2 : List S66) (n a1_1 a1_2 a1_3 : Int) (a1_5 : ByteArray) (A1_6 : Option Addr) (c1_6 : Nat) (l1_6 : List Int) (a1_7 : Bool) (A2 : Option Addr) (c2 : Nat) (l2 : List Int) (w : World) (hP : PA w g B0 d0 s0_0 B1 d1 s0_1 B2 d2 s0_2) (hr2 : Kd.C (Kd.int .i64) w A2 l2.length l2) (hc2 : l2.length ≤ c2) :
    Calls Tryd.prog 43 #[.pointer (some ⟨g, 0, none⟩), .agg #[.int .i64 14, .int .i64 a1_1, .int .i64 a1_2, .int .i64 a1_3, .int .i64 n, .string a1_5, .slice A1_6 l1_6.length c1_6, .bool a1_7], .slice A2 l2.length c2] w fun e w' => e = .returned (.tuple #[.int .i64 (0), .bool (decide (l2 = [3]))]) ∧ Below w.heap.size w w' := by
  obtain ⟨W1, hW1⟩ : ∃ W1, w.alloc (.cells #[.int .i64 14, .int .i64 a1_1, .int .i64 a1_2, .int .i64 a1_3, .int .i64 n, .string a1_5, .slice A1_6 l1_6.length c1_6, .bool a1_7] 33) = W1 := ⟨_, rfl⟩
  have hb1 : Below w.heap.size w W1 := by rw [← hW1]; exact below_alloc (Below.refl _ _) _
  have hB1 : W1.heap[w.heap.size]? = some (.cells #[.int .i64 14, .int .i64 a1_1, .int .i64 a1_2, .int .i64 a1_3, .int .i64 n, .string a1_5, .slice A1_6 l1_6.length c1_6, .bool a1_7] 33 (0, 0)) := by rw [← hW1]; exact heap_alloc_new w _
  have HP := Aside0.mk (hP.below hb1)
  have HR := Aside0.mk (Kd.C_below hr2 hb1)
  have HC := Aside0.mk hc2
  have HB := Aside0.mk hb1
  have o0 : W1.cell? ⟨w.heap.size, 0, none⟩ = some (.int .i64 14) := (blk_cell hB1 0).trans rfl
  have o4 : W1.cell? ⟨w.heap.size, 4, none⟩ = some (.int .i64 n) := (blk_cell hB1 4).trans rfl
  have o5 : W1.cell? ⟨w.heap.size, 5, none⟩ = some (.string a1_5) := (blk_cell hB1 5).trans rfl
  have p0 : W1.cell? ⟨g, 0, none⟩ = some (.slice B0 s0_0.length d0) := (blk_cell HP.out.b 0).trans rfl
  have p1 : W1.cell? ⟨g, 1, none⟩ = some (.slice B1 s0_1.length d1) := (blk_cell HP.out.b 1).trans rfl
  have p2 : W1.cell? ⟨g, 2, none⟩ = some (.slice B2 s0_2.length d2) := (blk_cell HP.out.b 2).trans rfl
  clear hP hr2 hc2 hb1 hB1
  have HL := Aside0.mk (show Kd.C (Kd.int .i64) (W1.alloc (.cells #[.int .i64 3] 3)) (some ⟨W1.heap.size, 0, none⟩) 1 [3] from litR W1 [3] (by simp))
  go_enter Tryd.func43, Tryd.ntmps43
  go_wp2_with (first | (go_at_call 41; (with_reducible refine (is_calls A2 c2 l2 _ 1 _ [3] rfl _ (Kd.C_alloc HR.out _) HC.out HL.out (Nat.le_refl _)).mono ?_); rintro e Z2 ⟨rfl, ⟨nd, rfl⟩⟩))
  go_ret2
  exact ⟨by first | rfl | (simp only [i64_w]; done) | (simp only [i64_w]; rfl) | (simp [*]; done), by repeat (first | exact HB.out | apply pw_below_drewN | apply below_alloc)⟩

set_option maxHeartbeats 2000000 in
set_option maxRecDepth 100000 in
theorem mem15 (g : Nat) (B0 : Option Addr) (d0 : Nat) (s0_0 : List S73) (B1 : Option Addr) (d1 : Nat) (s0_1 : List S77) (B2 : Option Addr) (d2 : Nat) (s0_2 : List S66) (n a1_1 a1_2 a1_3 : Int) (a1_5 : ByteArray) (A1_6 : Option Addr) (c1_6 : Nat) (l1_6 : List Int) (a1_7 : Bool) (A2 : Option Addr) (c2 : Nat) (l2 : List Int) (w : World) (hP : PA w g B0 d0 s0_0 B1 d1 s0_1 B2 d2 s0_2) (hr2 : Kd.C (Kd.int .i64) w A2 l2.length l2) (hc2 : l2.length ≤ c2) :
    Calls Tryd.prog 43 #[.pointer (some ⟨g, 0, none⟩), .agg #[.int .i64 15, .int .i64 a1_1, .int .i64 a1_2, .int .i64 a1_3, .int .i64 n, .string a1_5, .slice A1_6 l1_6.length c1_6, .bool a1_7], .slice A2 l2.length c2] w fun e w' => e = .returned (.tuple #[.int .i64 (0), .bool (decide (l2 = [3, 0]))]) ∧ Below w.heap.size w w' := by
  obtain ⟨W1, hW1⟩ : ∃ W1, w.alloc (.cells #[.int .i64 15, .int .i64 a1_1, .int .i64 a1_2, .int .i64 a1_3, .int .i64 n, .string a1_5, .slice A1_6 l1_6.length c1_6, .bool a1_7] 33) = W1 := ⟨_, rfl⟩
  have hb1 : Below w.heap.size w W1 := by rw [← hW1]; exact below_alloc (Below.refl _ _) _
  have hB1 : W1.heap[w.heap.size]? = some (.cells #[.int .i64 15, .int .i64 a1_1, .int .i64 a1_2, .int .i64 a1_3, .int .i64 n, .string a1_5, .slice A1_6 l1_6.length c1_6, .bool a1_7] 33 (0, 0)) := by rw [← hW1]; exact heap_alloc_new w _
  have HP := Aside0.mk (hP.below hb1)
  have HR := Aside0.mk (Kd.C_below hr2 hb1)
  have HC := Aside0.mk hc2
  have HB := Aside0.mk hb1
  have o0 : W1.cell? ⟨w.heap.size, 0, none⟩ = some (.int .i64 15) := (blk_cell hB1 0).trans rfl
  have o4 : W1.cell? ⟨w.heap.size, 4, none⟩ = some (.int .i64 n) := (blk_cell hB1 4).trans rfl
  have o5 : W1.cell? ⟨w.heap.size, 5, none⟩ = some (.string a1_5) := (blk_cell hB1 5).trans rfl
  have p0 : W1.cell? ⟨g, 0, none⟩ = some (.slice B0 s0_0.length d0) := (blk_cell HP.out.b 0).trans rfl
  have p1 : W1.cell? ⟨g, 1, none⟩ = some (.slice B1 s0_1.length d1) := (blk_cell HP.out.b 1).trans rfl
  have p2 : W1.cell? ⟨g, 2, none⟩ = some (.slice B2 s0_2.length d2) := (blk_cell HP.out.b 2).trans rfl
  clear hP hr2 hc2 hb1 hB1
  have HL := Aside0.mk (show Kd.C (Kd.int .i64) (W1.alloc (.cells #[.int .i64 3, .int .i64 0] 3)) (some ⟨W1.heap.size, 0, none⟩) 2 [3, 0] from litR W1 [3, 0] (by simp))
  go_enter Tryd.func43, Tryd.ntmps43
  go_wp2_with (first | (go_at_call 41; (with_reducible refine (is_calls A2 c2 l2 _ 2 _ [3, 0] rfl _ (Kd.C_alloc HR.out _) HC.out HL.out (Nat.le_refl _)).mono ?_); rintro e Z2 ⟨rfl, ⟨nd, rfl⟩⟩))
  go_ret2
  exact ⟨by first | rfl | (simp only [i64_w]; done) | (simp only [i64_w]; rfl) | (simp [*]; done), by repeat (first | exact HB.out | apply pw_below_drewN | apply below_alloc)⟩

set_option maxHeartbeats 2000000 in
set_option maxRecDepth 100000 in
theorem mem16 (g : Nat) (B0 : Option Addr) (d0 : Nat) (s0_0 : List S73) (B1 : Option Addr) (d1 : Nat) (s0_1 : List S77) (B2 : Option Addr) (d2 : Nat) (s0_2 : List S66) (n a1_1 a1_2 a1_3 : Int) (a1_5 : ByteArray) (A1_6 : Option Addr) (c1_6 : Nat) (l1_6 : List Int) (a1_7 : Bool) (A2 : Option Addr) (c2 : Nat) (l2 : List Int) (w : World) (hP : PA w g B0 d0 s0_0 B1 d1 s0_1 B2 d2 s0_2) (hr2 : Kd.C (Kd.int .i64) w A2 l2.length l2) (hc2 : l2.length ≤ c2) :
    Calls Tryd.prog 43 #[.pointer (some ⟨g, 0, none⟩), .agg #[.int .i64 16, .int .i64 a1_1, .int .i64 a1_2, .int .i64 a1_3, .int .i64 n, .string a1_5, .slice A1_6 l1_6.length c1_6, .bool a1_7], .slice A2 l2.length c2] w fun e w' => e = .returned (.tuple #[.int .i64 (-1), .bool (decide (l2 = [3, 0, 0]))]) ∧ Below w.heap.size w w' := by
  obtain ⟨W1, hW1⟩ : ∃ W1, w.alloc (.cells #[.int .i64 16, .int .i64 a1_1, .int .i64 a1_2, .int .i64 a1_3, .int .i64 n, .string a1_5, .slice A1_6 l1_6.length c1_6, .bool a1_7] 33) = W1 := ⟨_, rfl⟩
  have hb1 : Below w.heap.size w W1 := by rw [← hW1]; exact below_alloc (Below.refl _ _) _
  have hB1 : W1.heap[w.heap.size]? = some (.cells #[.int .i64 16, .int .i64 a1_1, .int .i64 a1_2, .int .i64 a1_3, .int .i64 n, .string a1_5, .slice A1_6 l1_6.length c1_6, .bool a1_7] 33 (0, 0)) := by rw [← hW1]; exact heap_alloc_new w _
  have HP := Aside0.mk (hP.below hb1)
  have HR := Aside0.mk (Kd.C_below hr2 hb1)
  have HC := Aside0.mk hc2
  have HB := Aside0.mk hb1
  have o0 : W1.cell? ⟨w.heap.size, 0, none⟩ = some (.int .i64 16) := (blk_cell hB1 0).trans rfl
  have o4 : W1.cell? ⟨w.heap.size, 4, none⟩ = some (.int .i64 n) := (blk_cell hB1 4).trans rfl
  have o5 : W1.cell? ⟨w.heap.size, 5, none⟩ = some (.string a1_5) := (blk_cell hB1 5).trans rfl
  have p0 : W1.cell? ⟨g, 0, none⟩ = some (.slice B0 s0_0.length d0) := (blk_cell HP.out.b 0).trans rfl
  have p1 : W1.cell? ⟨g, 1, none⟩ = some (.slice B1 s0_1.length d1) := (blk_cell HP.out.b 1).trans rfl
  have p2 : W1.cell? ⟨g, 2, none⟩ = some (.slice B2 s0_2.length d2) := (blk_cell HP.out.b 2).trans rfl
  clear hP hr2 hc2 hb1 hB1
  have HL := Aside0.mk (show Kd.C (Kd.int .i64) (W1.alloc (.cells #[.int .i64 3, .int .i64 0, .int .i64 0] 3)) (some ⟨W1.heap.size, 0, none⟩) 3 [3, 0, 0] from litR W1 [3, 0, 0] (by simp))
  go_enter Tryd.func43, Tryd.ntmps43
  go_wp2_with (first | (go_at_call 41; (with_reducible refine (is_calls A2 c2 l2 _ 3 _ [3, 0, 0] rfl _ (Kd.C_alloc HR.out _) HC.out HL.out (Nat.le_refl _)).mono ?_); rintro e Z2 ⟨rfl, ⟨nd, rfl⟩⟩))
  go_ret2
  exact ⟨by first | rfl | (simp only [i64_w]; done) | (simp only [i64_w]; rfl) | (simp [*]; done), by repeat (first | exact HB.out | apply pw_below_drewN | apply below_alloc)⟩

set_option maxHeartbeats 2000000 in
set_option maxRecDepth 100000 in
theorem mem18 (g : Nat) (B0 : Option Addr) (d0 : Nat) (s0_0 : List S73) (B1 : Option Addr) (d1 : Nat) (s0_1 : List S77) (B2 : Option Addr) (d2 : Nat) (s0_2 : List S66) (n a1_1 a1_2 a1_3 : Int) (a1_5 : ByteArray) (A1_6 : Option Addr) (c1_6 : Nat) (l1_6 : List Int) (a1_7 : Bool) (A2 : Option Addr) (c2 : Nat) (l2 : List Int) (w : World) (hP : PA w g B0 d0 s0_0 B1 d1 s0_1 B2 d2 s0_2) (hr2 : Kd.C (Kd.int .i64) w A2 l2.length l2) (hc2 : l2.length ≤ c2) :
    Calls Tryd.prog 43 #[.pointer (some ⟨g, 0, none⟩), .agg #[.int .i64 18, .int .i64 a1_1, .int .i64 a1_2, .int .i64 a1_3, .int .i64 n, .string a1_5, .slice A1_6 l1_6.length c1_6, .bool a1_7], .slice A2 l2.length c2] w fun e w' => e = .returned (.tuple #[.int .i64 (-1), .bool (decide (l2 = [4, 0, 0]))]) ∧ Below w.heap.size w w' := by
  obtain ⟨W1, hW1⟩ : ∃ W1, w.alloc (.cells #[.int .i64 18, .int .i64 a1_1, .int .i64 a1_2, .int .i64 a1_3, .int .i64 n, .string a1_5, .slice A1_6 l1_6.length c1_6, .bool a1_7] 33) = W1 := ⟨_, rfl⟩
  have hb1 : Below w.heap.size w W1 := by rw [← hW1]; exact below_alloc (Below.refl _ _) _
  have hB1 : W1.heap[w.heap.size]? = some (.cells #[.int .i64 18, .int .i64 a1_1, .int .i64 a1_2, .int .i64 a1_3, .int .i64 n, .string a1_5, .slice A1_6 l1_6.length c1_6, .bool a1_7] 33 (0, 0)) := by rw [← hW1]; exact heap_alloc_new w _
  have HP := Aside0.mk (hP.below hb1)
  have HR := Aside0.mk (Kd.C_below hr2 hb1)
  have HC := Aside0.mk hc2
  have HB := Aside0.mk hb1
  have o0 : W1.cell? ⟨w.heap.size, 0, none⟩ = some (.int .i64 18) := (blk_cell hB1 0).trans rfl
  have o4 : W1.cell? ⟨w.heap.size, 4, none⟩ = some (.int .i64 n) := (blk_cell hB1 4).trans rfl
  have o5 : W1.cell? ⟨w.heap.size, 5, none⟩ = some (.string a1_5) := (blk_cell hB1 5).trans rfl
  have p0 : W1.cell? ⟨g, 0, none⟩ = some (.slice B0 s0_0.length d0) := (blk_cell HP.out.b 0).trans rfl
  have p1 : W1.cell? ⟨g, 1, none⟩ = some (.slice B1 s0_1.length d1) := (blk_cell HP.out.b 1).trans rfl
  have p2 : W1.cell? ⟨g, 2, none⟩ = some (.slice B2 s0_2.length d2) := (blk_cell HP.out.b 2).trans rfl
  clear hP hr2 hc2 hb1 hB1
  have HL := Aside0.mk (show Kd.C (Kd.int .i64) (W1.alloc (.cells #[.int .i64 4, .int .i64 0, .int .i64 0] 3)) (some ⟨W1.heap.size, 0, none⟩) 3 [4, 0, 0] from litR W1 [4, 0, 0] (by simp))
  go_enter Tryd.func43, Tryd.ntmps43
  go_wp2_with (first | (go_at_call 41; (with_reducible refine (is_calls A2 c2 l2 _ 3 _ [4, 0, 0] rfl _ (Kd.C_alloc HR.out _) HC.out HL.out (Nat.le_refl _)).mono ?_); rintro e Z2 ⟨rfl, ⟨nd, rfl⟩⟩))
  go_ret2
  exact ⟨by first | rfl | (simp only [i64_w]; done) | (simp only [i64_w]; rfl) | (simp [*]; done), by repeat (first | exact HB.out | apply pw_below_drewN | apply below_alloc)⟩

set_option maxHeartbeats 2000000 in
set_option maxRecDepth 100000 in
theorem mem19 (g : Nat) (B0 : Option Addr) (d0 : Nat) (s0_0 : List S73) (B1 : Option Addr) (d1 : Nat) (s0_1 : List S77) (B2 : Option Addr) (d2 : Nat) (s0_2 : List S66) (n a1_1 a1_2 a1_3 : Int) (a1_5 : ByteArray) (A1_6 : Option Addr) (c1_6 : Nat) (l1_6 : List Int) (a1_7 : Bool) (A2 : Option Addr) (c2 : Nat) (l2 : List Int) (w : World) (hP : PA w g B0 d0 s0_0 B1 d1 s0_1 B2 d2 s0_2) (hr2 : Kd.C (Kd.int .i64) w A2 l2.length l2) (hc2 : l2.length ≤ c2) :
    Calls Tryd.prog 43 #[.pointer (some ⟨g, 0, none⟩), .agg #[.int .i64 19, .int .i64 a1_1, .int .i64 a1_2, .int .i64 a1_3, .int .i64 n, .string a1_5, .slice A1_6 l1_6.length c1_6, .bool a1_7], .slice A2 l2.length c2] w fun e w' => e = .returned (.tuple #[.int .i64 (0), .bool (decide (l2 = [4, 0]))]) ∧ Below w.heap.size w w' := by
  obtain ⟨W1, hW1⟩ : ∃ W1, w.alloc (.cells #[.int .i64 19, .int .i64 a1_1, .int .i64 a1_2, .int .i64 a1_3, .int .i64 n, .string a1_5, .slice A1_6 l1_6.length c1_6, .bool a1_7] 33) = W1 := ⟨_, rfl⟩
  have hb1 : Below w.heap.size w W1 := by rw [← hW1]; exact below_alloc (Below.refl _ _) _
  have hB1 : W1.heap[w.heap.size]? = some (.cells #[.int .i64 19, .int .i64 a1_1, .int .i64 a1_2, .int .i64 a1_3, .int .i64 n, .string a1_5, .slice A1_6 l1_6.length c1_6, .bool a1_7] 33 (0, 0)) := by rw [← hW1]; exact heap_alloc_new w _
  have HP := Aside0.mk (hP.below hb1)
  have HR := Aside0.mk (Kd.C_below hr2 hb1)
  have HC := Aside0.mk hc2
  have HB := Aside0.mk hb1
  have o0 : W1.cell? ⟨w.heap.size, 0, none⟩ = some (.int .i64 19) := (blk_cell hB1 0).trans rfl
  have o4 : W1.cell? ⟨w.heap.size, 4, none⟩ = some (.int .i64 n) := (blk_cell hB1 4).trans rfl
  have o5 : W1.cell? ⟨w.heap.size, 5, none⟩ = some (.string a1_5) := (blk_cell hB1 5).trans rfl
  have p0 : W1.cell? ⟨g, 0, none⟩ = some (.slice B0 s0_0.length d0) := (blk_cell HP.out.b 0).trans rfl
  have p1 : W1.cell? ⟨g, 1, none⟩ = some (.slice B1 s0_1.length d1) := (blk_cell HP.out.b 1).trans rfl
  have p2 : W1.cell? ⟨g, 2, none⟩ = some (.slice B2 s0_2.length d2) := (blk_cell HP.out.b 2).trans rfl
  clear hP hr2 hc2 hb1 hB1
  have HL := Aside0.mk (show Kd.C (Kd.int .i64) (W1.alloc (.cells #[.int .i64 4, .int .i64 0] 3)) (some ⟨W1.heap.size, 0, none⟩) 2 [4, 0] from litR W1 [4, 0] (by simp))
  go_enter Tryd.func43, Tryd.ntmps43
  go_wp2_with (first | (go_at_call 41; (with_reducible refine (is_calls A2 c2 l2 _ 2 _ [4, 0] rfl _ (Kd.C_alloc HR.out _) HC.out HL.out (Nat.le_refl _)).mono ?_); rintro e Z2 ⟨rfl, ⟨nd, rfl⟩⟩))
  go_ret2
  exact ⟨by first | rfl | (simp only [i64_w]; done) | (simp only [i64_w]; rfl) | (simp [*]; done), by repeat (first | exact HB.out | apply pw_below_drewN | apply below_alloc)⟩

set_option maxHeartbeats 2000000 in
set_option maxRecDepth 100000 in
theorem mem20 (g : Nat) (B0 : Option Addr) (d0 : Nat) (s0_0 : List S73) (B1 : Option Addr) (d1 : Nat) (s0_1 : List S77) (B2 : Option Addr) (d2 : Nat) (s0_2 : List S66) (n a1_1 a1_2 a1_3 : Int) (a1_5 : ByteArray) (A1_6 : Option Addr) (c1_6 : Nat) (l1_6 : List Int) (a1_7 : Bool) (A2 : Option Addr) (c2 : Nat) (l2 : List Int) (w : World) (hP : PA w g B0 d0 s0_0 B1 d1 s0_1 B2 d2 s0_2) (hr2 : Kd.C (Kd.int .i64) w A2 l2.length l2) (hc2 : l2.length ≤ c2) :
    Calls Tryd.prog 43 #[.pointer (some ⟨g, 0, none⟩), .agg #[.int .i64 20, .int .i64 a1_1, .int .i64 a1_2, .int .i64 a1_3, .int .i64 n, .string a1_5, .slice A1_6 l1_6.length c1_6, .bool a1_7], .slice A2 l2.length c2] w fun e w' => e = .returned (.tuple #[.int .i64 (0), .bool (decide (l2 = [4]))]) ∧ Below w.heap.size w w' := by
  obtain ⟨W1, hW1⟩ : ∃ W1, w.alloc (.cells #[.int .i64 20, .int .i64 a1_1, .int .i64 a1_2, .int .i64 a1_3, .int .i64 n, .string a1_5, .slice A1_6 l1_6.length c1_6, .bool a1_7] 33) = W1 := ⟨_, rfl⟩
  have hb1 : Below w.heap.size w W1 := by rw [← hW1]; exact below_alloc (Below.refl _ _) _
  have hB1 : W1.heap[w.heap.size]? = some (.cells #[.int .i64 20, .int .i64 a1_1, .int .i64 a1_2, .int .i64 a1_3, .int .i64 n, .string a1_5, .slice A1_6 l1_6.length c1_6, .bool a1_7] 33 (0, 0)) := by rw [← hW1]; exact heap_alloc_new w _
  have HP := Aside0.mk (hP.below hb1)
  have HR := Aside0.mk (Kd.C_below hr2 hb1)
  have HC := Aside0.mk hc2
  have HB := Aside0.mk hb1
  have o0 : W1.cell? ⟨w.heap.size, 0, none⟩ = some (.int .i64 20) := (blk_cell hB1 0).trans rfl
  have o4 : W1.cell? ⟨w.heap.size, 4, none⟩ = some (.int .i64 n) := (blk_cell hB1 4).trans rfl
  have o5 : W1.cell? ⟨w.heap.size, 5, none⟩ = some (.string a1_5) := (blk_cell hB1 5).trans rfl
  have p0 : W1.cell? ⟨g, 0, none⟩ = some (.slice B0 s0_0.length d0) := (blk_cell HP.out.b 0).trans rfl
  have p1 : W1.cell? ⟨g, 1, none⟩ = some (.slice B1 s0_1.length d1) := (blk_cell HP.out.b 1).trans rfl
  have p2 : W1.cell? ⟨g, 2, none⟩ = some (.slice B2 s0_2.length d2) := (blk_cell HP.out.b 2).trans rfl
  clear hP hr2 hc2 hb1 hB1
  have HL := Aside0.mk (show Kd.C (Kd.int .i64) (W1.alloc (.cells #[.int .i64 4] 3)) (some ⟨W1.heap.size, 0, none⟩) 1 [4] from litR W1 [4] (by simp))
  go_enter Tryd.func43, Tryd.ntmps43
  go_wp2_with (first | (go_at_call 41; (with_reducible refine (is_calls A2 c2 l2 _ 1 _ [4] rfl _ (Kd.C_alloc HR.out _) HC.out HL.out (Nat.le_refl _)).mono ?_); rintro e Z2 ⟨rfl, ⟨nd, rfl⟩⟩))
  go_ret2
  exact ⟨by first | rfl | (simp only [i64_w]; done) | (simp only [i64_w]; rfl) | (simp [*]; done), by repeat (first | exact HB.out | apply pw_below_drewN | apply below_alloc)⟩

set_option maxHeartbeats 2000000 in
set_option maxRecDepth 100000 in
theorem mem21 (g : Nat) (B0 : Option Addr) (d0 : Nat) (s0_0 : List S73) (B1 : Option Addr) (d1 : Nat) (s0_1 : List S77) (B2 : Option Addr) (d2 : Nat) (s0_2 : List S66) (n a1_1 a1_2 a1_3 : Int) (a1_5 : ByteArray) (A1_6 : Option Addr) (c1_6 : Nat) (l1_6 : List Int) (a1_7 : Bool) (A2 : Option Addr) (c2 : Nat) (l2 : List Int) (w : World) (hP : PA w g B0 d0 s0_0 B1 d1 s0_1 B2 d2 s0_2) (hr2 : Kd.C (Kd.int .i64) w A2 l2.length l2) (hc2 : l2.length ≤ c2) :
    Calls Tryd.prog 43 #[.pointer (some ⟨g, 0, none⟩), .agg #[.int .i64 21, .int .i64 a1_1, .int .i64 a1_2, .int .i64 a1_3, .int .i64 n, .string a1_5, .slice A1_6 l1_6.length c1_6, .bool a1_7], .slice A2 l2.length c2] w fun e w' => e = .returned (.tuple #[.int .i64 (0), .bool (decide (l2 = [4, 0]))]) ∧ Below w.heap.size w w' := by
  obtain ⟨W1, hW1⟩ : ∃ W1, w.alloc (.cells #[.int .i64 21, .int .i64 a1_1, .int .i64 a1_2, .int .i64 a1_3, .int .i64 n, .string a1_5, .slice A1_6 l1_6.length c1_6, .bool a1_7] 33) = W1 := ⟨_, rfl⟩
  have hb1 : Below w.heap.size w W1 := by rw [← hW1]; exact below_alloc (Below.refl _ _) _
  have hB1 : W1.heap[w.heap.size]? = some (.cells #[.int .i64 21, .int .i64 a1_1, .int .i64 a1_2, .int .i64 a1_3, .int .i64 n, .string a1_5, .slice A1_6 l1_6.length c1_6, .bool a1_7] 33 (0, 0)) := by rw [← hW1]; exact heap_alloc_new w _
  have HP := Aside0.mk (hP.below hb1)
  have HR := Aside0.mk (Kd.C_below hr2 hb1)
  have HC := Aside0.mk hc2
  have HB := Aside0.mk hb1
  have o0 : W1.cell? ⟨w.heap.size, 0, none⟩ = some (.int .i64 21) := (blk_cell hB1 0).trans rfl
  have o4 : W1.cell? ⟨w.heap.size, 4, none⟩ = some (.int .i64 n) := (blk_cell hB1 4).trans rfl
  have o5 : W1.cell? ⟨w.heap.size, 5, none⟩ = some (.string a1_5) := (blk_cell hB1 5).trans rfl
  have p0 : W1.cell? ⟨g, 0, none⟩ = some (.slice B0 s0_0.length d0) := (blk_cell HP.out.b 0).trans rfl
  have p1 : W1.cell? ⟨g, 1, none⟩ = some (.slice B1 s0_1.length d1) := (blk_cell HP.out.b 1).trans rfl
  have p2 : W1.cell? ⟨g, 2, none⟩ = some (.slice B2 s0_2.length d2) := (blk_cell HP.out.b 2).trans rfl
  clear hP hr2 hc2 hb1 hB1
  have HL := Aside0.mk (show Kd.C (Kd.int .i64) (W1.alloc (.cells #[.int .i64 4, .int .i64 0] 3)) (some ⟨W1.heap.size, 0, none⟩) 2 [4, 0] from litR W1 [4, 0] (by simp))
  go_enter Tryd.func43, Tryd.ntmps43
  go_wp2_with (first | (go_at_call 41; (with_reducible refine (is_calls A2 c2 l2 _ 2 _ [4, 0] rfl _ (Kd.C_alloc HR.out _) HC.out HL.out (Nat.le_refl _)).mono ?_); rintro e Z2 ⟨rfl, ⟨nd, rfl⟩⟩))
  go_ret2
  exact ⟨by first | rfl | (simp only [i64_w]; done) | (simp only [i64_w]; rfl) | (simp [*]; done), by repeat (first | exact HB.out | apply pw_below_drewN | apply below_alloc)⟩

set_option maxHeartbeats 2000000 in
set_option maxRecDepth 100000 in
theorem mem17 (g : Nat) (B0 : Option Addr) (d0 : Nat) (s0_0 : List S73) (B1 : Option Addr) (d1 : Nat) (s0_1 : List S77) (B2 : Option Addr) (d2 : Nat) (s0_2 : List S66) (n a1_1 a1_2 a1_3 : Int) (a1_5 : ByteArray) (A1_6 : Option Addr) (c1_6 : Nat) (l1_6 : List Int) (a1_7 : Bool) (A2 : Option Addr) (c2 : Nat) (l2 : List Int) (w : World) (hP : PA w g B0 d0 s0_0 B1 d1 s0_1 B2 d2 s0_2) (hr2 : Kd.C (Kd.int .i64) w A2 l2.length l2) (hc2 : l2.length ≤ c2) :
    Calls Tryd.prog 43 #[.pointer (some ⟨g, 0, none⟩), .agg #[.int .i64 17, .int .i64 a1_1, .int .i64 a1_2, .int .i64 a1_3, .int .i64 n, .string a1_5, .slice A1_6 l1_6.length c1_6, .bool a1_7], .slice A2 l2.length c2] w fun e w' => e = .returned (.tuple #[.int .i64 (4), .bool (true)]) ∧ Below w.heap.size w w' := by
  obtain ⟨W1, hW1⟩ : ∃ W1, w.alloc (.cells #[.int .i64 17, .int .i64 a1_1, .int .i64 a1_2, .int .i64 a1_3, .int .i64 n, .string a1_5, .slice A1_6 l1_6.length c1_6, .bool a1_7] 33) = W1 := ⟨_, rfl⟩
  have hb1 : Below w.heap.size w W1 := by rw [← hW1]; exact below_alloc (Below.refl _ _) _
  have hB1 : W1.heap[w.heap.size]? = some (.cells #[.int .i64 17, .int .i64 a1_1, .int .i64 a1_2, .int .i64 a1_3, .int .i64 n, .string a1_5, .slice A1_6 l1_6.length c1_6, .bool a1_7] 33 (0, 0)) := by rw [← hW1]; exact heap_alloc_new w _
  have HP := Aside0.mk (hP.below hb1)
  have HR := Aside0.mk (Kd.C_below hr2 hb1)
  have HC := Aside0.mk hc2
  have HB := Aside0.mk hb1
  have o0 : W1.cell? ⟨w.heap.size, 0, none⟩ = some (.int .i64 17) := (blk_cell hB1 0).trans rfl
  have o4 : W1.cell? ⟨w.heap.size, 4, none⟩ = some (.int .i64 n) := (blk_cell hB1 4).trans rfl
  have o5 : W1.cell? ⟨w.heap.size, 5, none⟩ = some (.string a1_5) := (blk_cell hB1 5).trans rfl
  have p0 : W1.cell? ⟨g, 0, none⟩ = some (.slice B0 s0_0.length d0) := (blk_cell HP.out.b 0).trans rfl
  have p1 : W1.cell? ⟨g, 1, none⟩ = some (.slice B1 s0_1.length d1) := (blk_cell HP.out.b 1).trans rfl
  have p2 : W1.cell? ⟨g, 2, none⟩ = some (.slice B2 s0_2.length d2) := (blk_cell HP.out.b 2).trans rfl
  clear hP hr2 hc2 hb1 hB1
  go_enter Tryd.func43, Tryd.ntmps43
  go_wp2
  go_ret2
  exact ⟨by first | rfl | (simp only [i64_w]; done) | (simp only [i64_w]; rfl) | (simp [*]; done), by repeat (first | exact HB.out | apply pw_below_drewN | apply below_alloc)⟩

set_option maxHeartbeats 2000000 in
set_option maxRecDepth 100000 in
theorem mem10no (g : Nat) (B0 : Option Addr) (d0 : Nat) (s0_0 : List S73) (B1 : Option Addr) (d1 : Nat) (s0_1 : List S77) (B2 : Option Addr) (d2 : Nat) (s0_2 : List S66) (n a1_1 a1_2 a1_3 : Int) (a1_5 : ByteArray) (A1_6 : Option Addr) (c1_6 : Nat) (l1_6 : List Int) (a1_7 : Bool) (A2 : Option Addr) (c2 : Nat) (l2 : List Int) (w : World) (hP : PA w g B0 d0 s0_0 B1 d1 s0_1 B2 d2 s0_2) (hr2 : Kd.C (Kd.int .i64) w A2 l2.length l2) (hc2 : l2.length ≤ c2) (t : Int) (ht : rd l2 0 = t) (hR : -9223372036854775808 ≤ t ∧ t ≤ 9223372036854775807) (hT : okClass t s0_1.length = false) (hL : 1 ≤ l2.length) :
    Calls Tryd.prog 43 #[.pointer (some ⟨g, 0, none⟩), .agg #[.int .i64 10, .int .i64 a1_1, .int .i64 a1_2, .int .i64 a1_3, .int .i64 n, .string a1_5, .slice A1_6 l1_6.length c1_6, .bool a1_7], .slice A2 l2.length c2] w fun e w' => e = .returned (.tuple #[.int .i64 (0), .bool (false)]) ∧ Below w.heap.size w w' := by
  obtain ⟨ad2, e2, hl0⟩ := Kd.at_int hr2 0 (by omega) (by omega)
  subst e2
  rw [ht, show (0 : Int).toNat = 0 from rfl, Addr.add_zero'] at hl0
  obtain ⟨W1, hW1⟩ : ∃ W1, w.alloc (.cells #[.int .i64 10, .int .i64 a1_1, .int .i64 a1_2, .int .i64 a1_3, .int .i64 n, .string a1_5, .slice A1_6 l1_6.length c1_6, .bool a1_7] 33) = W1 := ⟨_, rfl⟩
  have hb1 : Below w.heap.size w W1 := by rw [← hW1]; exact below_alloc (Below.refl _ _) _
  have hB1 : W1.heap[w.heap.size]? = some (.cells #[.int .i64 10, .int .i64 a1_1, .int .i64 a1_2, .int .i64 a1_3, .int .i64 n, .string a1_5, .slice A1_6 l1_6.length c1_6, .bool a1_7] 33 (0, 0)) := by rw [← hW1]; exact heap_alloc_new w _
  have HP := Aside0.mk (hP.below hb1)
  have HR := Aside0.mk (Kd.C_below hr2 hb1)
  have HC := Aside0.mk hc2
  have HB := Aside0.mk hb1
  have o0 : W1.cell? ⟨w.heap.size, 0, none⟩ = some (.int .i64 10) := (blk_cell hB1 0).trans rfl
  have o4 : W1.cell? ⟨w.heap.size, 4, none⟩ = some (.int .i64 n) := (blk_cell hB1 4).trans rfl
  have o5 : W1.cell? ⟨w.heap.size, 5, none⟩ = some (.string a1_5) := (blk_cell hB1 5).trans rfl
  have p0 : W1.cell? ⟨g, 0, none⟩ = some (.slice B0 s0_0.length d0) := (blk_cell HP.out.b 0).trans rfl
  have p1 : W1.cell? ⟨g, 1, none⟩ = some (.slice B1 s0_1.length d1) := (blk_cell HP.out.b 1).trans rfl
  have p2 : W1.cell? ⟨g, 2, none⟩ = some (.slice B2 s0_2.length d2) := (blk_cell HP.out.b 2).trans rfl
  clear hP hr2 hc2 hb1 hB1
  have y0 := (HB.out.cell (World.block_lt_of_cell? w _ hl0)).trans hl0
  have i0 : (0 < l2.length) = True := eq_true (by omega)
  have i0b : ((0 : Int) < (l2.length : Int)) = True := eq_true (by omega)
  clear hl0
  have HRT := Aside0.mk hR
  have HT := Aside0.mk hT
  clear hR hT ht hL
  go_enter Tryd.func43, Tryd.ntmps43
  go_wp2_with (first | (go_at_call 48; (with_reducible refine (classOf_no t HRT.out g s0_1.length d1 B1 HT.out _ p1).mono ?_); rintro e Z2 ⟨rfl, ⟨nd, rfl⟩⟩))
  go_quiet (fail)
  go_wp2
  go_ret2
  exact ⟨by first | rfl | (simp only [i64_w]; done) | (simp only [i64_w]; rfl) | (simp [*]; done), by repeat (first | exact HB.out | apply pw_below_drewN | apply below_alloc)⟩

set_option maxHeartbeats 2000000 in
set_option maxRecDepth 100000 in
theorem mem11no (g : Nat) (B0 : Option Addr) (d0 : Nat) (s0_0 : List S73) (B1 : Option Addr) (d1 : Nat) (s0_1 : List S77) (B2 : Option Addr) (d2 : Nat) (s0_2 : List S66) (n a1_1 a1_2 a1_3 : Int) (a1_5 : ByteArray) (A1_6 : Option Addr) (c1_6 : Nat) (l1_6 : List Int) (a1_7 : Bool) (A2 : Option Addr) (c2 : Nat) (l2 : List Int) (w : World) (hP : PA w g B0 d0 s0_0 B1 d1 s0_1 B2 d2 s0_2) (hr2 : Kd.C (Kd.int .i64) w A2 l2.length l2) (hc2 : l2.length ≤ c2) (t : Int) (ht : rd l2 0 = t) (hR : -9223372036854775808 ≤ t ∧ t ≤ 9223372036854775807) (hT : okClass t s0_1.length = false) (hL : 1 ≤ l2.length) :
    Calls Tryd.prog 43 #[.pointer (some ⟨g, 0, none⟩), .agg #[.int .i64 11, .int .i64 a1_1, .int .i64 a1_2, .int .i64 a1_3, .int .i64 n, .string a1_5, .slice A1_6 l1_6.length c1_6, .bool a1_7], .slice A2 l2.length c2] w fun e w' => e = .returned (.tuple #[.int .i64 (0), .bool (false)]) ∧ Below w.heap.size w w' := by
  obtain ⟨ad2, e2, hl0⟩ := Kd.at_int hr2 0 (by omega) (by omega)
  subst e2
  rw [ht, show (0 : Int).toNat = 0 from rfl, Addr.add_zero'] at hl0
  obtain ⟨W1, hW1⟩ : ∃ W1, w.alloc (.cells #[.int .i64 11, .int .i64 a1_1, .int .i64 a1_2, .int .i64 a1_3, .int .i64 n, .string a1_5, .slice A1_6 l1_6.length c1_6, .bool a1_7] 33) = W1 := ⟨_, rfl⟩
  have hb1 : Below w.heap.size w W1 := by rw [← hW1]; exact below_alloc (Below.refl _ _) _
  have hB1 : W1.heap[w.heap.size]? = some (.cells #[.int .i64 11, .int .i64 a1_1, .int .i64 a1_2, .int .i64 a1_3, .int .i64 n, .string a1_5, .slice A1_6 l1_6.length c1_6, .bool a1_7] 33 (0, 0)) := by rw [← hW1]; exact heap_alloc_new w _
  have HP := Aside0.mk (hP.below hb1)
  have HR := Aside0.mk (Kd.C_below hr2 hb1)
  have HC := Aside0.mk hc2
  have HB := Aside0.mk hb1
  have o0 : W1.cell? ⟨w.heap.size, 0, none⟩ = some (.int .i64 11) := (blk_cell hB1 0).trans rfl
  have o4 : W1.cell? ⟨w.heap.size, 4, none⟩ = some (.int .i64 n) := (blk_cell hB1 4).trans rfl
  have o5 : W1.cell? ⟨w.heap.size, 5, none⟩ = some (.string a1_5) := (blk_cell hB1 5).trans rfl
  have p0 : W1.cell? ⟨g, 0, none⟩ = some (.slice B0 s0_0.length d0) := (blk_cell HP.out.b 0).trans rfl
  have p1 : W1.cell? ⟨g, 1, none⟩ = some (.slice B1 s0_1.length d1) := (blk_cell HP.out.b 1).trans rfl
  have p2 : W1.cell? ⟨g, 2, none⟩ = some (.slice B2 s0_2.length d2) := (blk_cell HP.out.b 2).trans rfl
  clear hP hr2 hc2 hb1 hB1
  have y0 := (HB.out.cell (World.block_lt_of_cell? w _ hl0)).trans hl0
  have i0 : (0 < l2.length) = True := eq_true (by omega)
  have i0b : ((0 : Int) < (l2.length : Int)) = True := eq_true (by omega)
  clear hl0
  have HRT := Aside0.mk hR
  have HT := Aside0.mk hT
  clear hR hT ht hL
  go_enter Tryd.func43, Tryd.ntmps43
  go_wp2_with (first | (go_at_call 48; (with_reducible refine (classOf_no t HRT.out g s0_1.length d1 B1 HT.out _ p1).mono ?_); rintro e Z2 ⟨rfl, ⟨nd, rfl⟩⟩))
  go_quiet (fail)
  go_wp2
  go_ret2
  exact ⟨by first | rfl | (simp only [i64_w]; done) | (simp only [i64_w]; rfl) | (simp [*]; done), by repeat (first | exact HB.out | apply pw_below_drewN | apply below_alloc)⟩

set_option maxHeartbeats 2000000 in
set_option maxRecDepth 100000 in
theorem mem22no (g : Nat) (B0 : Option Addr) (d0 : Nat) (s0_0 : List S73) (B1 : Option Addr) (d1 : Nat) (s0_1 : List S77) (B2 : Option Addr) (d2 : Nat) (s0_2 : List S66) (n a1_1 a1_2 a1_3 : Int) (a1_5 : ByteArray) (A1_6 : Option Addr) (c1_6 : Nat) (l1_6 : List Int) (a1_7 : Bool) (A2 : Option Addr) (c2 : Nat) (l2 : List Int) (w : World) (hP : PA w g B0 d0 s0_0 B1 d1 s0_1 B2 d2 s0_2) (hr2 : Kd.C (Kd.int .i64) w A2 l2.length l2) (hc2 : l2.length ≤ c2) (t : Int) (ht : rd l2 0 = t) (hR : -9223372036854775808 ≤ t ∧ t ≤ 9223372036854775807) (hT : okClass t s0_1.length = false) (hL : 1 ≤ l2.length) :
    Calls Tryd.prog 43 #[.pointer (some ⟨g, 0, none⟩), .agg #[.int .i64 22, .int .i64 a1_1, .int .i64 a1_2, .int .i64 a1_3, .int .i64 n, .string a1_5, .slice A1_6 l1_6.length c1_6, .bool a1_7], .slice A2 l2.length c2] w fun e w' => e = .returned (.tuple #[.int .i64 (5), .bool (false)]) ∧ Below w.heap.size w w' := by
  obtain ⟨ad2, e2, hl0⟩ := Kd.at_int hr2 0 (by omega) (by omega)
  subst e2
  rw [ht, show (0 : Int).toNat = 0 from rfl, Addr.add_zero'] at hl0
  obtain ⟨W1, hW1⟩ : ∃ W1, w.alloc (.cells #[.int .i64 22, .int .i64 a1_1, .int .i64 a1_2, .int .i64 a1_3, .int .i64 n, .string a1_5, .slice A1_6 l1_6.length c1_6, .bool a1_7] 33) = W1 := ⟨_, rfl⟩
  have hb1 : Below w.heap.size w W1 := by rw [← hW1]; exact below_alloc (Below.refl _ _) _
  have hB1 : W1.heap[w.heap.size]? = some (.cells #[.int .i64 22, .int .i64 a1_1, .int .i64 a1_2, .int .i64 a1_3, .int .i64 n, .string a1_5, .slice A1_6 l1_6.length c1_6, .bool a1_7] 33 (0, 0)) := by rw [← hW1]; exact heap_alloc_new w _
  have HP := Aside0.mk (hP.below hb1)
  have HR := Aside0.mk (Kd.C_below hr2 hb1)
  have HC := Aside0.mk hc2
  have HB := Aside0.mk hb1
  have o0 : W1.cell? ⟨w.heap.size, 0, none⟩ = some (.int .i64 22) := (blk_cell hB1 0).trans rfl
  have o4 : W1.cell? ⟨w.heap.size, 4, none⟩ = some (.int .i64 n) := (blk_cell hB1 4).trans rfl
  have o5 : W1.cell? ⟨w.heap.size, 5, none⟩ = some (.string a1_5) := (blk_cell hB1 5).trans rfl
  have p0 : W1.cell? ⟨g, 0, none⟩ = some (.slice B0 s0_0.length d0) := (blk_cell HP.out.b 0).trans rfl
  have p1 : W1.cell? ⟨g, 1, none⟩ = some (.slice B1 s0_1.length d1) := (blk_cell HP.out.b 1).trans rfl
  have p2 : W1.cell? ⟨g, 2, none⟩ = some (.slice B2 s0_2.length d2) := (blk_cell HP.out.b 2).trans rfl
  clear hP hr2 hc2 hb1 hB1
  have y0 := (HB.out.cell (World.block_lt_of_cell? w _ hl0)).trans hl0
  have i0 : (0 < l2.length) = True := eq_true (by omega)
  have i0b : ((0 : Int) < (l2.length : Int)) = True := eq_true (by omega)
  clear hl0
  have HRT := Aside0.mk hR
  have HT := Aside0.mk hT
  clear hR hT ht hL
  go_enter Tryd.func43, Tryd.ntmps43
  go_wp2_with (first | (go_at_call 48; (with_reducible refine (classOf_no t HRT.out g s0_1.length d1 B1 HT.out _ p1).mono ?_); rintro e Z2 ⟨rfl, ⟨nd, rfl⟩⟩))
  (try go_quiet (fail))
  (try go_wp2)
  go_ret2
  exact ⟨by first | rfl | (simp only [i64_w]; done) | (simp only [i64_w]; rfl) | (simp [*]; done), by repeat (first | exact HB.out | apply pw_below_drewN | apply below_alloc)⟩

set_option maxHeartbeats 2000000 in
set_option maxRecDepth 100000 in
theorem mem22 (g : Nat) (B0 : Option Addr) (d0 : Nat) (s0_0 : List S73) (B1 : Option Addr) (d1 : Nat) (s0_1 : List S77) (B2 : Option Addr) (d2 : Nat) (s0_2 : List S66) (n a1_1 a1_2 a1_3 : Int) (a1_5 : ByteArray) (A1_6 : Option Addr) (c1_6 : Nat) (l1_6 : List Int) (a1_7 : Bool) (A2 : Option Addr) (c2 : Nat) (l2 : List Int) (w : World) (hP : PA w g B0 d0 s0_0 B1 d1 s0_1 B2 d2 s0_2) (hr2 : Kd.C (Kd.int .i64) w A2 l2.length l2) (hc2 : l2.length ≤ c2) (u : Nat) (ht : rd l2 0 = (u : Int) + 6) (hu : u < s0_1.length) (hu2 : u + 6 ≤ 9223372036854775807) (hL : 1 ≤ l2.length) :
    Calls Tryd.prog 43 #[.pointer (some ⟨g, 0, none⟩), .agg #[.int .i64 22, .int .i64 a1_1, .int .i64 a1_2, .int .i64 a1_3, .int .i64 n, .string a1_5, .slice A1_6 l1_6.length c1_6, .bool a1_7], .slice A2 l2.length c2] w fun e w' => e = .returned (.tuple #[.int .i64 (5), .bool (true)]) ∧ Below w.heap.size w w' := by
  obtain ⟨ad2, e2, hl0⟩ := Kd.at_int hr2 0 (by omega) (by omega)
  subst e2
  rw [ht, show (0 : Int).toNat = 0 from rfl, Addr.add_zero'] at hl0
  obtain ⟨ad, Af, cf, Ag, cg, eB, hx0, hx1, hm0, hg0, hm1, hg1⟩ := at_T77 hP.r1 (u : Int) (by omega) (by omega)
  subst eB
  rw [Int.toNat_natCast] at hx0 hx1
  obtain ⟨W1, hW1⟩ : ∃ W1, w.alloc (.cells #[.int .i64 22, .int .i64 a1_1, .int .i64 a1_2, .int .i64 a1_3, .int .i64 n, .string a1_5, .slice A1_6 l1_6.length c1_6, .bool a1_7] 33) = W1 := ⟨_, rfl⟩
  have hb1 : Below w.heap.size w W1 := by rw [← hW1]; exact below_alloc (Below.refl _ _) _
  have hB1 : W1.heap[w.heap.size]? = some (.cells #[.int .i64 22, .int .i64 a1_1, .int .i64 a1_2, .int .i64 a1_3, .int .i64 n, .string a1_5, .slice A1_6 l1_6.length c1_6, .bool a1_7] 33 (0, 0)) := by rw [← hW1]; exact heap_alloc_new w _
  have HP := Aside0.mk (hP.below hb1)
  have HR := Aside0.mk (Kd.C_below hr2 hb1)
  have HC := Aside0.mk hc2
  have HB := Aside0.mk hb1
  have o0 : W1.cell? ⟨w.heap.size, 0, none⟩ = some (.int .i64 22) := (blk_cell hB1 0).trans rfl
  have o4 : W1.cell? ⟨w.heap.size, 4, none⟩ = some (.int .i64 n) := (blk_cell hB1 4).trans rfl
  have o5 : W1.cell? ⟨w.heap.size, 5, none⟩ = some (.string a1_5) := (blk_cell hB1 5).trans rfl
  have p0 : W1.cell? ⟨g, 0, none⟩ = some (.slice B0 s0_0.length d0) := (blk_cell HP.out.b 0).trans rfl
  have p1 : W1.cell? ⟨g, 1, none⟩ = some (.slice (some ad) s0_1.length d1) := (blk_cell HP.out.b 1).trans rfl
  have p2 : W1.cell? ⟨g, 2, none⟩ = some (.slice B2 s0_2.length d2) := (blk_cell HP.out.b 2).trans rfl
  clear hP hr2 hc2 hb1 hB1
  have y0 := (HB.out.cell (World.block_lt_of_cell? w _ hl0)).trans hl0
  have i0 : (0 < l2.length) = True := eq_true (by omega)
  have i0b : ((0 : Int) < (l2.length : Int)) = True := eq_true (by omega)
  clear hl0
  have HU := Aside0.mk hu
  have HU2 := Aside0.mk hu2
  clear hu hu2 ht hL
  clear hx0 hx1 hm0 hg0 hm1 hg1
  go_enter Tryd.func43, Tryd.ntmps43
  go_wp2_with (first | (go_at_call 48; (with_reducible refine (classOf_is u HU2.out g s0_1.length d1 ad HU.out _ p1).mono ?_); rintro e Z2 ⟨rfl, ⟨nd, rfl⟩⟩))
  (try go_quiet (fail))
  (try go_wp2)
  go_ret2
  exact ⟨by first | rfl | (simp only [i64_w]; done) | (simp only [i64_w]; rfl) | (simp [*]; done), by repeat (first | exact HB.out | apply pw_below_drewN | apply below_alloc)⟩

set_option maxHeartbeats 2000000 in
set_option maxRecDepth 100000 in
theorem mem10out (g : Nat) (B0 : Option Addr) (d0 : Nat) (s0_0 : List S73) (B1 : Option Addr) (d1 : Nat) (s0_1 : List S77) (B2 : Option Addr) (d2 : Nat) (s0_2 : List S66) (n a1_1 a1_2 a1_3 : Int) (a1_5 : ByteArray) (A1_6 : Option Addr) (c1_6 : Nat) (l1_6 : List Int) (a1_7 : Bool) (A2 : Option Addr) (c2 : Nat) (l2 : List Int) (w : World) (hP : PA w g B0 d0 s0_0 B1 d1 s0_1 B2 d2 s0_2) (hr2 : Kd.C (Kd.int .i64) w A2 l2.length l2) (hc2 : l2.length ≤ c2) (u : Nat) (ht : rd l2 0 = (u : Int) + 6) (hu : u < s0_1.length) (hu2 : u + 6 ≤ 9223372036854775807) (hL : 1 ≤ l2.length) (hN : inside n ((rd_T77 s0_1 (u : Int)).f0.length : Int) = false) :
    Calls Tryd.prog 43 #[.pointer (some ⟨g, 0, none⟩), .agg #[.int .i64 10, .int .i64 a1_1, .int .i64 a1_2, .int .i64 a1_3, .int .i64 n, .string a1_5, .slice A1_6 l1_6.length c1_6, .bool a1_7], .slice A2 l2.length c2] w fun e w' => e = .returned (.tuple #[.int .i64 (0), .bool (false)]) ∧ Below w.heap.size w w' := by
  obtain ⟨ad2, e2, hl0⟩ := Kd.at_int hr2 0 (by omega) (by omega)
  subst e2
  rw [ht, show (0 : Int).toNat = 0 from rfl, Addr.add_zero'] at hl0
  obtain ⟨ad, Af, cf, Ag, cg, eB, hx0, hx1, hm0, hg0, hm1, hg1⟩ := at_T77 hP.r1 (u : Int) (by omega) (by omega)
  subst eB
  rw [Int.toNat_natCast] at hx0 hx1
  obtain ⟨W1, hW1⟩ : ∃ W1, w.alloc (.cells #[.int .i64 10, .int .i64 a1_1, .int .i64 a1_2, .int .i64 a1_3, .int .i64 n, .string a1_5, .slice A1_6 l1_6.length c1_6, .bool a1_7] 33) = W1 := ⟨_, rfl⟩
  have hb1 : Below w.heap.size w W1 := by rw [← hW1]; exact below_alloc (Below.refl _ _) _
  have hB1 : W1.heap[w.heap.size]? = some (.cells #[.int .i64 10, .int .i64 a1_1, .int .i64 a1_2, .int .i64 a1_3, .int .i64 n, .string a1_5, .slice A1_6 l1_6.length c1_6, .bool a1_7] 33 (0, 0)) := by rw [← hW1]; exact heap_alloc_new w _
  have HP := Aside0.mk (hP.below hb1)
  have HR := Aside0.mk (Kd.C_below hr2 hb1)
  have HC := Aside0.mk hc2
  have HB := Aside0.mk hb1
  have o0 : W1.cell? ⟨w.heap.size, 0, none⟩ = some (.int .i64 10) := (blk_cell hB1 0).trans rfl
  have o4 : W1.cell? ⟨w.heap.size, 4, none⟩ = some (.int .i64 n) := (blk_cell hB1 4).trans rfl
  have o5 : W1.cell? ⟨w.heap.size, 5, none⟩ = some (.string a1_5) := (blk_cell hB1 5).trans rfl
  have p0 : W1.cell? ⟨g, 0, none⟩ = some (.slice B0 s0_0.length d0) := (blk_cell HP.out.b 0).trans rfl
  have p1 : W1.cell? ⟨g, 1, none⟩ = some (.slice (some ad) s0_1.length d1) := (blk_cell HP.out.b 1).trans rfl
  have p2 : W1.cell? ⟨g, 2, none⟩ = some (.slice B2 s0_2.length d2) := (blk_cell HP.out.b 2).trans rfl
  clear hP hr2 hc2 hb1 hB1
  have y0 := (HB.out.cell (World.block_lt_of_cell? w _ hl0)).trans hl0
  have i0 : (0 < l2.length) = True := eq_true (by omega)
  have i0b : ((0 : Int) < (l2.length : Int)) = True := eq_true (by omega)
  clear hl0
  have x0 := (HB.out.cell (World.block_lt_of_cell? w _ hx0)).trans hx0
  have HU := Aside0.mk hu
  have HU2 := Aside0.mk hu2
  clear hu hu2 ht hL
  clear hx0 hx1 hm0 hg0 hm1 hg1
  have e1 := hN
  go_enter Tryd.func43, Tryd.ntmps43
  go_wp2_with (first | (go_at_call 48; (with_reducible refine (classOf_is u HU2.out g s0_1.length d1 ad HU.out _ p1).mono ?_); rintro e Z2 ⟨rfl, ⟨nd, rfl⟩⟩))
  go_quiet ((go_at_call 39; (first | refine Calls.quiet_of (v := .bool (inside n ((rd_T77 s0_1 (u : Int)).f0.length : Int))) ?_ | refine quiet_sum (v := .bool (inside n ((rd_T77 s0_1 (u : Int)).f0.length : Int))) ?_ | refine quiet_sum2 (v := .bool (inside n ((rd_T77 s0_1 (u : Int)).f0.length : Int))) ?_); (with_reducible refine (within_calls n ((rd_T77 s0_1 (u : Int)).f0.length : Int) _).mono ?_); rintro e Z2 ⟨he, ⟨hd⟩⟩; exact ⟨he, hd⟩))
  go_wp2
  go_ret2
  exact ⟨by first | rfl | (simp only [i64_w]; done) | (simp only [i64_w]; rfl) | (simp [*]; done), by repeat (first | exact HB.out | apply pw_below_drewN | apply below_alloc)⟩

set_option maxHeartbeats 2000000 in
set_option maxRecDepth 100000 in
theorem mem11out (g : Nat) (B0 : Option Addr) (d0 : Nat) (s0_0 : List S73) (B1 : Option Addr) (d1 : Nat) (s0_1 : List S77) (B2 : Option Addr) (d2 : Nat) (s0_2 : List S66) (n a1_1 a1_2 a1_3 : Int) (a1_5 : ByteArray) (A1_6 : Option Addr) (c1_6 : Nat) (l1_6 : List Int) (a1_7 : Bool) (A2 : Option Addr) (c2 : Nat) (l2 : List Int) (w : World) (hP : PA w g B0 d0 s0_0 B1 d1 s0_1 B2 d2 s0_2) (hr2 : Kd.C (Kd.int .i64) w A2 l2.length l2) (hc2 : l2.length ≤ c2) (u : Nat) (ht : rd l2 0 = (u : Int) + 6) (hu : u < s0_1.length) (hu2 : u + 6 ≤ 9223372036854775807) (hL : 1 ≤ l2.length) (hN : inside n ((rd_T77 s0_1 (u : Int)).f0.length : Int) = false) :
    Calls Tryd.prog 43 #[.pointer (some ⟨g, 0, none⟩), .agg #[.int .i64 11, .int .i64 a1_1, .int .i64 a1_2, .int .i64 a1_3, .int .i64 n, .string a1_5, .slice A1_6 l1_6.length c1_6, .bool a1_7], .slice A2 l2.length c2] w fun e w' => e = .returned (.tuple #[.int .i64 (0), .bool (false)]) ∧ Below w.heap.size w w' := by
  obtain ⟨ad2, e2, hl0⟩ := Kd.at_int hr2 0 (by omega) (by omega)
  subst e2
  rw [ht, show (0 : Int).toNat = 0 from rfl, Addr.add_zero'] at hl0
  obtain ⟨ad, Af, cf, Ag, cg, eB, hx0, hx1, hm0, hg0, hm1, hg1⟩ := at_T77 hP.r1 (u : Int) (by omega) (by omega)
  subst eB
  rw [Int.toNat_natCast] at hx0 hx1
  obtain ⟨W1, hW1⟩ : ∃ W1, w.alloc (.cells #[.int .i64 11, .int .i64 a1_1, .int .i64 a1_2, .int .i64 a1_3, .int .i64 n, .string a1_5, .slice A1_6 l1_6.length c1_6, .bool a1_7] 33) = W1 := ⟨_, rfl⟩
  have hb1 : Below w.heap.size w W1 := by rw [← hW1]; exact below_alloc (Below.refl _ _) _
  have hB1 : W1.heap[w.heap.size]? = some (.cells #[.int .i64 11, .int .i64 a1_1, .int .i64 a1_2, .int .i64 a1_3, .int .i64 n, .string a1_5, .slice A1_6 l1_6.length c1_6, .bool a1_7] 33 (0, 0)) := by rw [← hW1]; exact heap_alloc_new w _
  have HP := Aside0.mk (hP.below hb1)
  have HR := Aside0.mk (Kd.C_below hr2 hb1)
  have HC := Aside0.mk hc2
  have HB := Aside0.mk hb1
  have o0 : W1.cell? ⟨w.heap.size, 0, none⟩ = some (.int .i64 11) := (blk_cell hB1 0).trans rfl
  have o4 : W1.cell? ⟨w.heap.size, 4, none⟩ = some (.int .i64 n) := (blk_cell hB1 4).trans rfl
  have o5 : W1.cell? ⟨w.heap.size, 5, none⟩ = some (.string a1_5) := (blk_cell hB1 5).trans rfl
  have p0 : W1.cell? ⟨g, 0, none⟩ = some (.slice B0 s0_0.length d0) := (blk_cell HP.out.b 0).trans rfl
  have p1 : W1.cell? ⟨g, 1, none⟩ = some (.slice (some ad) s0_1.length d1) := (blk_cell HP.out.b 1).trans rfl
  have p2 : W1.cell? ⟨g, 2, none⟩ = some (.slice B2 s0_2.length d2) := (blk_cell HP.out.b 2).trans rfl
  clear hP hr2 hc2 hb1 hB1
  have y0 := (HB.out.cell (World.block_lt_of_cell? w _ hl0)).trans hl0
  have i0 : (0 < l2.length) = True := eq_true (by omega)
  have i0b : ((0 : Int) < (l2.length : Int)) = True := eq_true (by omega)
  clear hl0
  have x0 := (HB.out.cell (World.block_lt_of_cell? w _ hx0)).trans hx0
  have HU := Aside0.mk hu
  have HU2 := Aside0.mk hu2
  clear hu hu2 ht hL
  clear hx0 hx1 hm0 hg0 hm1 hg1
  have e1 := hN
  go_enter Tryd.func43, Tryd.ntmps43
  go_wp2_with (first | (go_at_call 48; (with_reducible refine (classOf_is u HU2.out g s0_1.length d1 ad HU.out _ p1).mono ?_); rintro e Z2 ⟨rfl, ⟨nd, rfl⟩⟩))
  go_quiet ((go_at_call 39; (first | refine Calls.quiet_of (v := .bool (inside n ((rd_T77 s0_1 (u : Int)).f0.length : Int))) ?_ | refine quiet_sum (v := .bool (inside n ((rd_T77 s0_1 (u : Int)).f0.length : Int))) ?_ | refine quiet_sum2 (v := .bool (inside n ((rd_T77 s0_1 (u : Int)).f0.length : Int))) ?_); (with_reducible refine (within_calls n ((rd_T77 s0_1 (u : Int)).f0.length : Int) _).mono ?_); rintro e Z2 ⟨he, ⟨hd⟩⟩; exact ⟨he, hd⟩))
  go_wp2
  go_ret2
  exact ⟨by first | rfl | (simp only [i64_w]; done) | (simp only [i64_w]; rfl) | (simp [*]; done), by repeat (first | exact HB.out | apply pw_below_drewN | apply below_alloc)⟩

set_option maxHeartbeats 2000000 in
set_option maxRecDepth 100000 in
theorem mem10 (g : Nat) (B0 : Option Addr) (d0 : Nat) (s0_0 : List S73) (B1 : Option Addr) (d1 : Nat) (s0_1 : List S77) (B2 : Option Addr) (d2 : Nat) (s0_2 : List S66) (n a1_1 a1_2 a1_3 : Int) (a1_5 : ByteArray) (A1_6 : Option Addr) (c1_6 : Nat) (l1_6 : List Int) (a1_7 : Bool) (A2 : Option Addr) (c2 : Nat) (l2 : List Int) (w : World) (hP : PA w g B0 d0 s0_0 B1 d1 s0_1 B2 d2 s0_2) (hr2 : Kd.C (Kd.int .i64) w A2 l2.length l2) (hc2 : l2.length ≤ c2) (u : Nat) (ht : rd l2 0 = (u : Int) + 6) (hu : u < s0_1.length) (hu2 : u + 6 ≤ 9223372036854775807) (hL : 1 ≤ l2.length) (hN : inside n ((rd_T77 s0_1 (u : Int)).f0.length : Int) = true) :
    Calls Tryd.prog 43 #[.pointer (some ⟨g, 0, none⟩), .agg #[.int .i64 10, .int .i64 a1_1, .int .i64 a1_2, .int .i64 a1_3, .int .i64 n, .string a1_5, .slice A1_6 l1_6.length c1_6, .bool a1_7], .slice A2 l2.length c2] w fun e w' => e = .returned (.tuple #[.int .i64 (rd (rd_T77 s0_1 (u : Int)).f0 n), .bool (true)]) ∧ Below w.heap.size w w' := by
  obtain ⟨ad2, e2, hl0⟩ := Kd.at_int hr2 0 (by omega) (by omega)
  subst e2
  rw [ht, show (0 : Int).toNat = 0 from rfl, Addr.add_zero'] at hl0
  obtain ⟨ad, Af, cf, Ag, cg, eB, hx0, hx1, hm0, hg0, hm1, hg1⟩ := at_T77 hP.r1 (u : Int) (by omega) (by omega)
  subst eB
  rw [Int.toNat_natCast] at hx0 hx1
  obtain ⟨m, rfl⟩ := Int.eq_ofNat_of_zero_le (of_decide_eq_true hN).1
  have hm := (of_decide_eq_true hN).2
  obtain ⟨af, eF, hv⟩ := Kd.at_int hg0 (m : Int) (by omega) hm
  subst eF
  rw [Int.toNat_natCast] at hv
  obtain ⟨W1, hW1⟩ : ∃ W1, w.alloc (.cells #[.int .i64 10, .int .i64 a1_1, .int .i64 a1_2, .int .i64 a1_3, .int .i64 (m : Int), .string a1_5, .slice A1_6 l1_6.length c1_6, .bool a1_7] 33) = W1 := ⟨_, rfl⟩
  have hb1 : Below w.heap.size w W1 := by rw [← hW1]; exact below_alloc (Below.refl _ _) _
  have hB1 : W1.heap[w.heap.size]? = some (.cells #[.int .i64 10, .int .i64 a1_1, .int .i64 a1_2, .int .i64 a1_3, .int .i64 (m : Int), .string a1_5, .slice A1_6 l1_6.length c1_6, .bool a1_7] 33 (0, 0)) := by rw [← hW1]; exact heap_alloc_new w _
  have HP := Aside0.mk (hP.below hb1)
  have HR := Aside0.mk (Kd.C_below hr2 hb1)
  have HC := Aside0.mk hc2
  have HB := Aside0.mk hb1
  have o0 : W1.cell? ⟨w.heap.size, 0, none⟩ = some (.int .i64 10) := (blk_cell hB1 0).trans rfl
  have o4 : W1.cell? ⟨w.heap.size, 4, none⟩ = some (.int .i64 (m : Int)) := (blk_cell hB1 4).trans rfl
  have o5 : W1.cell? ⟨w.heap.size, 5, none⟩ = some (.string a1_5) := (blk_cell hB1 5).trans rfl
  have p0 : W1.cell? ⟨g, 0, none⟩ = some (.slice B0 s0_0.length d0) := (blk_cell HP.out.b 0).trans rfl
  have p1 : W1.cell? ⟨g, 1, none⟩ = some (.slice (some ad) s0_1.length d1) := (blk_cell HP.out.b 1).trans rfl
  have p2 : W1.cell? ⟨g, 2, none⟩ = some (.slice B2 s0_2.length d2) := (blk_cell HP.out.b 2).trans rfl
  clear hP hr2 hc2 hb1 hB1
  have y0 := (HB.out.cell (World.block_lt_of_cell? w _ hl0)).trans hl0
  have i0 : (0 < l2.length) = True := eq_true (by omega)
  have i0b : ((0 : Int) < (l2.length : Int)) = True := eq_true (by omega)
  clear hl0
  have x0 := (HB.out.cell (World.block_lt_of_cell? w _ hx0)).trans hx0
  have v0 := (HB.out.cell (World.block_lt_of_cell? w _ hv)).trans hv
  have j1 : ((m : Int) < ((rd_T77 s0_1 (u : Int)).f0.length : Int)) = True := eq_true hm
  have j2 : (m < (rd_T77 s0_1 (u : Int)).f0.length) = True := eq_true (by omega)
  have e1 := hN
  have HU := Aside0.mk hu
  have HU2 := Aside0.mk hu2
  clear hu hu2 ht hL
  clear hx0 hx1 hm0 hg0 hm1 hg1 hv hm
  go_enter Tryd.func43, Tryd.ntmps43
  go_wp2_with (first | (go_at_call 48; (with_reducible refine (classOf_is u HU2.out g s0_1.length d1 ad HU.out _ p1).mono ?_); rintro e Z2 ⟨rfl, ⟨nd, rfl⟩⟩))
  go_quiet ((go_at_call 39; (first | refine Calls.quiet_of (v := .bool (inside (m : Int) ((rd_T77 s0_1 (u : Int)).f0.length : Int))) ?_ | refine quiet_sum (v := .bool (inside (m : Int) ((rd_T77 s0_1 (u : Int)).f0.length : Int))) ?_ | refine quiet_sum2 (v := .bool (inside (m : Int) ((rd_T77 s0_1 (u : Int)).f0.length : Int))) ?_); (with_reducible refine (within_calls (m : Int) ((rd_T77 s0_1 (u : Int)).f0.length : Int) _).mono ?_); rintro e Z2 ⟨he, ⟨hd⟩⟩; exact ⟨he, hd⟩))
  go_wp2
  go_quiet (fail)
  go_wp2
  go_ret2
  exact ⟨by first | rfl | (simp only [i64_w]; done) | (simp only [i64_w]; rfl) | (simp [*]; done), by repeat (first | exact HB.out | apply pw_below_drewN | apply below_alloc)⟩

set_option maxHeartbeats 2000000 in
set_option maxRecDepth 100000 in
theorem mem11 (g : Nat) (B0 : Option Addr) (d0 : Nat) (s0_0 : List S73) (B1 : Option Addr) (d1 : Nat) (s0_1 : List S77) (B2 : Option Addr) (d2 : Nat) (s0_2 : List S66) (n a1_1 a1_2 a1_3 : Int) (a1_5 : ByteArray) (A1_6 : Option Addr) (c1_6 : Nat) (l1_6 : List Int) (a1_7 : Bool) (A2 : Option Addr) (c2 : Nat) (l2 : List Int) (w : World) (hP : PA w g B0 d0 s0_0 B1 d1 s0_1 B2 d2 s0_2) (hr2 : Kd.C (Kd.int .i64) w A2 l2.length l2) (hc2 : l2.length ≤ c2) (u : Nat) (ht : rd l2 0 = (u : Int) + 6) (hu : u < s0_1.length) (hu2 : u + 6 ≤ 9223372036854775807) (hL : 2 ≤ l2.length) (t1 : Int) (ht1 : rd l2 1 = t1) (hN : inside n ((rd_T77 s0_1 (u : Int)).f0.length : Int) = true) :
    Calls Tryd.prog 43 #[.pointer (some ⟨g, 0, none⟩), .agg #[.int .i64 11, .int .i64 a1_1, .int .i64 a1_2, .int .i64 a1_3, .int .i64 n, .string a1_5, .slice A1_6 l1_6.length c1_6, .bool a1_7], .slice A2 l2.length c2] w fun e w' => e = .returned (.tuple #[.int .i64 (-1), .bool (decide (t1 = rd (rd_T77 s0_1 (u : Int)).f0 n))]) ∧ Below w.heap.size w w' := by
  obtain ⟨ad2, e2, hl0⟩ := Kd.at_int hr2 0 (by omega) (by omega)
  subst e2
  rw [ht, show (0 : Int).toNat = 0 from rfl, Addr.add_zero'] at hl0
  obtain ⟨ad3, e3, hl1⟩ := Kd.at_int hr2 1 (by omega) (by omega)
  obtain rfl : ad2 = ad3 := by injection e3
  rw [ht1, show (1 : Int).toNat = 1 from rfl] at hl1
  simp only [Go.Addr.add, Nat.reduceEqDiff, ↓reduceIte] at hl1
  obtain ⟨ad, Af, cf, Ag, cg, eB, hx0, hx1, hm0, hg0, hm1, hg1⟩ := at_T77 hP.r1 (u : Int) (by omega) (by omega)
  subst eB
  rw [Int.toNat_natCast] at hx0 hx1
  obtain ⟨m, rfl⟩ := Int.eq_ofNat_of_zero_le (of_decide_eq_true hN).1
  have hm := (of_decide_eq_true hN).2
  obtain ⟨af, eF, hv⟩ := Kd.at_int hg0 (m : Int) (by omega) hm
  subst eF
  rw [Int.toNat_natCast] at hv
  obtain ⟨W1, hW1⟩ : ∃ W1, w.alloc (.cells #[.int .i64 11, .int .i64 a1_1, .int .i64 a1_2, .int .i64 a1_3, .int .i64 (m : Int), .string a1_5, .slice A1_6 l1_6.length c1_6, .bool a1_7] 33) = W1 := ⟨_, rfl⟩
  have hb1 : Below w.heap.size w W1 := by rw [← hW1]; exact below_alloc (Below.refl _ _) _
  have hB1 : W1.heap[w.heap.size]? = some (.cells #[.int .i64 11, .int .i64 a1_1, .int .i64 a1_2, .int .i64 a1_3, .int .i64 (m : Int), .string a1_5, .slice A1_6 l1_6.length c1_6, .bool a1_7] 33 (0, 0)) := by rw [← hW1]; exact heap_alloc_new w _
  have HP := Aside0.mk (hP.below hb1)
  have HR := Aside0.mk (Kd.C_below hr2 hb1)
  have HC := Aside0.mk hc2
  have HB := Aside0.mk hb1
  have o0 : W1.cell? ⟨w.heap.size, 0, none⟩ = some (.int .i64 11) := (blk_cell hB1 0).trans rfl
  have o4 : W1.cell? ⟨w.heap.size, 4, none⟩ = some (.int .i64 (m : Int)) := (blk_cell hB1 4).trans rfl
  have o5 : W1.cell? ⟨w.heap.size, 5, none⟩ = some (.string a1_5) := (blk_cell hB1 5).trans rfl
  have p0 : W1.cell? ⟨g, 0, none⟩ = some (.slice B0 s0_0.length d0) := (blk_cell HP.out.b 0).trans rfl
  have p1 : W1.cell? ⟨g, 1, none⟩ = some (.slice (some ad) s0_1.length d1) := (blk_cell HP.out.b 1).trans rfl
  have p2 : W1.cell? ⟨g, 2, none⟩ = some (.slice B2 s0_2.length d2) := (blk_cell HP.out.b 2).trans rfl
  clear hP hr2 hc2 hb1 hB1
  have y0 := (HB.out.cell (World.block_lt_of_cell? w _ hl0)).trans hl0
  have i0 : (0 < l2.length) = True := eq_true (by omega)
  have i0b : ((0 : Int) < (l2.length : Int)) = True := eq_true (by omega)
  clear hl0
  have y1 := (HB.out.cell (World.block_lt_of_cell? w _ hl1)).trans hl1
  have i1 : (1 < l2.length) = True := eq_true (by omega)
  have i1b : ((1 : Int) < (l2.length : Int)) = True := eq_true (by omega)
  clear hl1
  have x0 := (HB.out.cell (World.block_lt_of_cell? w _ hx0)).trans hx0
  have v0 := (HB.out.cell (World.block_lt_of_cell? w _ hv)).trans hv
  have j1 : ((m : Int) < ((rd_T77 s0_1 (u : Int)).f0.length : Int)) = True := eq_true hm
  have j2 : (m < (rd_T77 s0_1 (u : Int)).f0.length) = True := eq_true (by omega)
  have e1 := hN
  have HU := Aside0.mk hu
  have HU2 := Aside0.mk hu2
  clear hu hu2 ht hL
  clear hx0 hx1 hm0 hg0 hm1 hg1 hv hm ht1
  go_enter Tryd.func43, Tryd.ntmps43
  go_wp2_with (first | (go_at_call 48; (with_reducible refine (classOf_is u HU2.out g s0_1.length d1 ad HU.out _ p1).mono ?_); rintro e Z2 ⟨rfl, ⟨nd, rfl⟩⟩))
  go_quiet ((go_at_call 39; (first | refine Calls.quiet_of (v := .bool (inside (m : Int) ((rd_T77 s0_1 (u : Int)).f0.length : Int))) ?_ | refine quiet_sum (v := .bool (inside (m : Int) ((rd_T77 s0_1 (u : Int)).f0.length : Int))) ?_ | refine quiet_sum2 (v := .bool (inside (m : Int) ((rd_T77 s0_1 (u : Int)).f0.length : Int))) ?_); (with_reducible refine (within_calls (m : Int) ((rd_T77 s0_1 (u : Int)).f0.length : Int) _).mono ?_); rintro e Z2 ⟨he, ⟨hd⟩⟩; exact ⟨he, hd⟩))
  go_wp2
  go_quiet (fail)
  go_wp2
  go_ret2
  exact ⟨by first | rfl | (simp only [i64_w]; done) | (simp only [i64_w]; rfl) | (simp [*]; done), by repeat (first | exact HB.out | apply pw_below_drewN | apply below_alloc)⟩

set_option maxHeartbeats 2000000 in
set_option maxRecDepth 100000 in
theorem memno (g : Nat) (B0 : Option Addr) (d0 : Nat) (s0_0 : List S73) (B1 : Option Addr) (d1 : Nat) (s0_1 : List S77) (B2 : Option Addr) (d2 : Nat) (s0_2 : List S66) (n a1_1 a1_2 a1_3 : Int) (a1_5 : ByteArray) (A1_6 : Option Addr) (c1_6 : Nat) (l1_6 : List Int) (a1_7 : Bool) (A2 : Option Addr) (c2 : Nat) (l2 : List Int) (w : World) (hP : PA w g B0 d0 s0_0 B1 d1 s0_1 B2 d2 s0_2) (hr2 : Kd.C (Kd.int .i64) w A2 l2.length l2) (hc2 : l2.length ≤ c2) (K : Int) (n9 : K ≠ 9) (n10 : K ≠ 10) (n11 : K ≠ 11) (n12 : K ≠ 12) (n13 : K ≠ 13) (n14 : K ≠ 14) (n15 : K ≠ 15) (n16 : K ≠ 16) (n17 : K ≠ 17) (n18 : K ≠ 18) (n19 : K ≠ 19) (n20 : K ≠ 20) (n21 : K ≠ 21) (n22 : K ≠ 22) :
    Calls Tryd.prog 43 #[.pointer (some ⟨g, 0, none⟩), .agg #[.int .i64 K, .int .i64 a1_1, .int .i64 a1_2, .int .i64 a1_3, .int .i64 n, .string a1_5, .slice A1_6 l1_6.length c1_6, .bool a1_7], .slice A2 l2.length c2] w fun e w' => e = .returned (.tuple #[.int .i64 (0), .bool (false)]) ∧ Below w.heap.size w w' := by
  obtain ⟨W1, hW1⟩ : ∃ W1, w.alloc (.cells #[.int .i64 K, .int .i64 a1_1, .int .i64 a1_2, .int .i64 a1_3, .int .i64 n, .string a1_5, .slice A1_6 l1_6.length c1_6, .bool a1_7] 33) = W1 := ⟨_, rfl⟩
  have hb1 : Below w.heap.size w W1 := by rw [← hW1]; exact below_alloc (Below.refl _ _) _
  have hB1 : W1.heap[w.heap.size]? = some (.cells #[.int .i64 K, .int .i64 a1_1, .int .i64 a1_2, .int .i64 a1_3, .int .i64 n, .string a1_5, .slice A1_6 l1_6.length c1_6, .bool a1_7] 33 (0, 0)) := by rw [← hW1]; exact heap_alloc_new w _
  have HP := Aside0.mk (hP.below hb1)
  have HR := Aside0.mk (Kd.C_below hr2 hb1)
  have HC := Aside0.mk hc2
  have HB := Aside0.mk hb1
  have o0 : W1.cell? ⟨w.heap.size, 0, none⟩ = some (.int .i64 K) := (blk_cell hB1 0).trans rfl
  have o4 : W1.cell? ⟨w.heap.size, 4, none⟩ = some (.int .i64 n) := (blk_cell hB1 4).trans rfl
  have o5 : W1.cell? ⟨w.heap.size, 5, none⟩ = some (.string a1_5) := (blk_cell hB1 5).trans rfl
  have p0 : W1.cell? ⟨g, 0, none⟩ = some (.slice B0 s0_0.length d0) := (blk_cell HP.out.b 0).trans rfl
  have p1 : W1.cell? ⟨g, 1, none⟩ = some (.slice B1 s0_1.length d1) := (blk_cell HP.out.b 1).trans rfl
  have p2 : W1.cell? ⟨g, 2, none⟩ = some (.slice B2 s0_2.length d2) := (blk_cell HP.out.b 2).trans rfl
  clear hP hr2 hc2 hb1 hB1
  have f9 : (K == 9) = false := beq_eq_false_iff_ne.mpr n9
  clear n9
  have f10 : (K == 10) = false := beq_eq_false_iff_ne.mpr n10
  clear n10
  have f11 : (K == 11) = false := beq_eq_false_iff_ne.mpr n11
  clear n11
  have f12 : (K == 12) = false := beq_eq_false_iff_ne.mpr n12
  clear n12
  have f13 : (K == 13) = false := beq_eq_false_iff_ne.mpr n13
  clear n13
  have f14 : (K == 14) = false := beq_eq_false_iff_ne.mpr n14
  clear n14
  have f15 : (K == 15) = false := beq_eq_false_iff_ne.mpr n15
  clear n15
  have f16 : (K == 16) = false := beq_eq_false_iff_ne.mpr n16
  clear n16
  have f17 : (K == 17) = false := beq_eq_false_iff_ne.mpr n17
  clear n17
  have f18 : (K == 18) = false := beq_eq_false_iff_ne.mpr n18
  clear n18
  have f19 : (K == 19) = false := beq_eq_false_iff_ne.mpr n19
  clear n19
  have f20 : (K == 20) = false := beq_eq_false_iff_ne.mpr n20
  clear n20
  have f21 : (K == 21) = false := beq_eq_false_iff_ne.mpr n21
  clear n21
  have f22 : (K == 22) = false := beq_eq_false_iff_ne.mpr n22
  clear n22
  go_enter Tryd.func43, Tryd.ntmps43
  go_wp2
  go_ret2
  exact ⟨by first | rfl | (simp only [i64_w]; done) | (simp only [i64_w]; rfl) | (simp [*]; done), by repeat (first | exact HB.out | apply pw_below_drewN | apply below_alloc)⟩

def memS (C : List S77) (K N : Int) (l : List Int) : Int × Bool :=
  if K = 9 then (if inside N (C.length : Int) = true then (wrap64 (6 + N), decide (l = (rd_T77 C N).f0)) else (0, false))
  else if K = 10 ∨ K = 11 then (if okClass (rd l 0) C.length = true then (if inside N ((rd_T77 C (rd l 0 - 6)).f0.length : Int) = true then (if K = 10 then (rd (rd_T77 C (rd l 0 - 6)).f0 N, true) else (-1, decide (rd l 1 = rd (rd_T77 C (rd l 0 - 6)).f0 N))) else (0, false)) else (0, false))
  else if K = 12 then (3, inside N 129)
  else if K = 13 then (3, decide (l = [0]))
  else if K = 14 then (0, decide (l = [3]))
  else if K = 15 then (0, decide (l = [3, 0]))
  else if K = 16 then (-1, decide (l = [3, 0, 0]))
  else if K = 18 then (-1, decide (l = [4, 0, 0]))
  else if K = 19 then (0, decide (l = [4, 0]))
  else if K = 20 then (0, decide (l = [4]))
  else if K = 21 then (0, decide (l = [4, 0]))
  else if K = 17 then (4, true)
  else if K = 22 then (5, okClass (rd l 0) C.length)
  else (0, false)
def memOk (K : Int) (l : List Int) : Prop := (K = 10 ∨ K = 22 → 1 ≤ l.length) ∧ (K = 11 → 2 ≤ l.length) ∧ ∀ x ∈ l, -9223372036854775808 ≤ x ∧ x ≤ 9223372036854775807
instance (K : Int) (l : List Int) : Decidable (memOk K l) := by unfold memOk; exact inferInstance
def kind_memory.f (s0_0 : List S73) (s0_1 : List S77) (s0_2 : List S66) (a1_0 a1_1 a1_2 a1_3 a1_4 : Int) (a1_5 : ByteArray) (l1_6 : List Int) (a1_7 : Bool) (l2 : List Int) : Option (Int × Bool) := if memOk a1_0 l2 then some (memS s0_1 a1_0 a1_4 l2) else none
theorem kind_memory.calls (g : Nat) (s0_0 : List S73) (s0_1 : List S77) (s0_2 : List S66) (a1_0 a1_1 a1_2 a1_3 a1_4 : Int) (a1_5 : ByteArray) (A1_6 : Option Addr) (c1_6 : Nat) (l1_6 : List Int) (a1_7 : Bool) (A2 : Option Addr) (c2 : Nat) (l2 : List Int) (r1 : Int) (r2 : Bool) (w0 w : World) (hI : IsS26 w0 w g s0_0 s0_1 s0_2) (hB : Below w0.heap.size w0 w) (hr1_6 : Kd.C (Kd.int .i64) w A1_6 l1_6.length l1_6) (hc1_6 : l1_6.length ≤ c1_6) (hf1_6 : ∀ ad, A1_6 = some ad → 0 < l1_6.length → ad.block ≠ g) (hr2 : Kd.C (Kd.int .i64) w A2 l2.length l2) (hc2 : l2.length ≤ c2) (hf2 : ∀ ad, A2 = some ad → 0 < l2.length → ad.block ≠ g) (h : kind_memory.f s0_0 s0_1 s0_2 a1_0 a1_1 a1_2 a1_3 a1_4 a1_5 l1_6 a1_7 l2 = some (r1, r2)) :
    Calls Tryd.prog 43 #[.pointer (some ⟨g, 0, none⟩), .agg #[.int .i64 a1_0, .int .i64 a1_1, .int .i64 a1_2, .int .i64 a1_3, .int .i64 a1_4, .string a1_5, .slice A1_6 l1_6.length c1_6, .bool a1_7], .slice A2 l2.length c2] w fun e w' => e = .returned (.tuple #[.int .i64 r1, .bool r2]) ∧ IsS26 w0 w' g s0_0 s0_1 s0_2 ∧ Below w0.heap.size w0 w' ∧ KeepBut w w' g none := by
  unfold kind_memory.f at h
  split at h
  rotate_left
  · cases h
  rename_i hok
  have hs : memS s0_1 a1_0 a1_4 l2 = (r1, r2) := Option.some.inj h
  clear h
  obtain ⟨hL1, hL2, hx⟩ := hok
  obtain ⟨B0, d0, B1, d1, B2, d2, hb, hg, q0, q1, q2⟩ := id hI
  have hP : PA w g B0 d0 s0_0 B1 d1 s0_1 B2 d2 s0_2 := ⟨hb, Kd.C_below q0 hB, Kd.C_below q1 hB, Kd.C_below q2 hB⟩
  have post : ∀ w', Below w.heap.size w w' → IsS26 w0 w' g s0_0 s0_1 s0_2 ∧ Below w0.heap.size w0 w' ∧ KeepBut w w' g none := fun w' k => ⟨IsS26.below hI k, below_then hB hB.size k, KeepBut.of_below k g none⟩
  have fin : ∀ {args : Array Value} {t : Int} {b : Bool}, (t, b) = (r1, r2) → (Calls Tryd.prog 43 args w fun e w' => e = .returned (.tuple #[.int .i64 t, .bool b]) ∧ Below w.heap.size w w') → Calls Tryd.prog 43 args w fun e w' => e = .returned (.tuple #[.int .i64 r1, .bool r2]) ∧ IsS26 w0 w' g s0_0 s0_1 s0_2 ∧ Below w0.heap.size w0 w' ∧ KeepBut w w' g none := by
    intro args t b he hc
    injection he with h1 h2
    subst h1
    subst h2
    exact hc.mono fun e w' h' => ⟨h'.1, post w' h'.2⟩
  clear hI post hb hg q0 q1 q2
  by_cases k9 : a1_0 = 9
  · subst k9
    cases hN : inside a1_4 (s0_1.length : Int) with
    | false => exact fin (by rw [← hs]; unfold memS; rw [if_pos rfl, if_neg (by rw [hN]; decide)]) (mem9no g B0 d0 s0_0 B1 d1 s0_1 B2 d2 s0_2 a1_4 a1_1 a1_2 a1_3 a1_5 A1_6 c1_6 l1_6 a1_7 A2 c2 l2 w hP hr2 hc2 hN)
    | true => exact fin (by rw [← hs]; unfold memS; rw [if_pos rfl, if_pos hN]) (mem9 g B0 d0 s0_0 B1 d1 s0_1 B2 d2 s0_2 a1_4 a1_1 a1_2 a1_3 a1_5 A1_6 c1_6 l1_6 a1_7 A2 c2 l2 w hP hr2 hc2 hN)
  by_cases k12 : a1_0 = 12
  · subst k12
    exact fin (by rw [← hs]; simp [memS]) (mem12 g B0 d0 s0_0 B1 d1 s0_1 B2 d2 s0_2 a1_4 a1_1 a1_2 a1_3 a1_5 A1_6 c1_6 l1_6 a1_7 A2 c2 l2 w hP hr2 hc2)
  by_cases k17 : a1_0 = 17
  · subst k17
    exact fin (by rw [← hs]; simp [memS]) (mem17 g B0 d0 s0_0 B1 d1 s0_1 B2 d2 s0_2 a1_4 a1_1 a1_2 a1_3 a1_5 A1_6 c1_6 l1_6 a1_7 A2 c2 l2 w hP hr2 hc2)
  by_cases k13 : a1_0 = 13
  · subst k13
    exact fin (by rw [← hs]; simp [memS]) (mem13 g B0 d0 s0_0 B1 d1 s0_1 B2 d2 s0_2 a1_4 a1_1 a1_2 a1_3 a1_5 A1_6 c1_6 l1_6 a1_7 A2 c2 l2 w hP hr2 hc2)
  by_cases k14 : a1_0 = 14
  · subst k14
    exact fin (by rw [← hs]; simp [memS]) (mem14 g B0 d0 s0_0 B1 d1 s0_1 B2 d2 s0_2 a1_4 a1_1 a1_2 a1_3 a1_5 A1_6 c1_6 l1_6 a1_7 A2 c2 l2 w hP hr2 hc2)
  by_cases k15 : a1_0 = 15
  · subst k15
    exact fin (by rw [← hs]; simp [memS]) (mem15 g B0 d0 s0_0 B1 d1 s0_1 B2 d2 s0_2 a1_4 a1_1 a1_2 a1_3 a1_5 A1_6 c1_6 l1_6 a1_7 A2 c2 l2 w hP hr2 hc2)
  by_cases k16 : a1_0 = 16
  · subst k16
    exact fin (by rw [← hs]; simp [memS]) (mem16 g B0 d0 s0_0 B1 d1 s0_1 B2 d2 s0_2 a1_4 a1_1 a1_2 a1_3 a1_5 A1_6 c1_6 l1_6 a1_7 A2 c2 l2 w hP hr2 hc2)
  by_cases k18 : a1_0 = 18
  · subst k18
    exact fin (by rw [← hs]; simp [memS]) (mem18 g B0 d0 s0_0 B1 d1 s0_1 B2 d2 s0_2 a1_4 a1_1 a1_2 a1_3 a1_5 A1_6 c1_6 l1_6 a1_7 A2 c2 l2 w hP hr2 hc2)
  by_cases k19 : a1_0 = 19
  · subst k19
    exact fin (by rw [← hs]; simp [memS]) (mem19 g B0 d0 s0_0 B1 d1 s0_1 B2 d2 s0_2 a1_4 a1_1 a1_2 a1_3 a1_5 A1_6 c1_6 l1_6 a1_7 A2 c2 l2 w hP hr2 hc2)
  by_cases k20 : a1_0 = 20
  · subst k20
    exact fin (by rw [← hs]; simp [memS]) (mem20 g B0 d0 s0_0 B1 d1 s0_1 B2 d2 s0_2 a1_4 a1_1 a1_2 a1_3 a1_5 A1_6 c1_6 l1_6 a1_7 A2 c2 l2 w hP hr2 hc2)
  by_cases k21 : a1_0 = 21
  · subst k21
    exact fin (by rw [← hs]; simp [memS]) (mem21 g B0 d0 s0_0 B1 d1 s0_1 B2 d2 s0_2 a1_4 a1_1 a1_2 a1_3 a1_5 A1_6 c1_6 l1_6 a1_7 A2 c2 l2 w hP hr2 hc2)
  have hR : 1 ≤ l2.length → -9223372036854775808 ≤ rd l2 0 ∧ rd l2 0 ≤ 9223372036854775807 := fun h1 => hx _ (by unfold rd; rw [show (0 : Int).toNat = 0 from rfl, List.getD_eq_getElem?_getD, List.getElem?_eq_getElem (by omega)]; exact List.getElem_mem _)
  have hU : okClass (rd l2 0) s0_1.length = true → ∃ u : Nat, rd l2 0 = (u : Int) + 6 ∧ u < s0_1.length := fun h1 => by
    have := of_decide_eq_true h1
    exact ⟨(rd l2 0 - 6).toNat, by omega, by omega⟩
  by_cases k22 : a1_0 = 22
  · subst k22
    have hl := hL1 (.inr rfl)
    have hr := hR hl
    cases hT : okClass (rd l2 0) s0_1.length with
    | false => exact fin (by rw [← hs]; simp [memS, hT]) (mem22no g B0 d0 s0_0 B1 d1 s0_1 B2 d2 s0_2 a1_4 a1_1 a1_2 a1_3 a1_5 A1_6 c1_6 l1_6 a1_7 A2 c2 l2 w hP hr2 hc2 _ rfl hr hT hl)
    | true =>
      obtain ⟨u, h1, h2⟩ := hU hT
      exact fin (by rw [← hs]; simp [memS, hT]) (mem22 g B0 d0 s0_0 B1 d1 s0_1 B2 d2 s0_2 a1_4 a1_1 a1_2 a1_3 a1_5 A1_6 c1_6 l1_6 a1_7 A2 c2 l2 w hP hr2 hc2 u h1 h2 (by omega) hl)
  by_cases k10 : a1_0 = 10
  · subst k10
    have hl := hL1 (.inl rfl)
    have hr := hR hl
    cases hT : okClass (rd l2 0) s0_1.length with
    | false => exact fin (by rw [← hs]; simp [memS, hT]) (mem10no g B0 d0 s0_0 B1 d1 s0_1 B2 d2 s0_2 a1_4 a1_1 a1_2 a1_3 a1_5 A1_6 c1_6 l1_6 a1_7 A2 c2 l2 w hP hr2 hc2 _ rfl hr hT hl)
    | true =>
      obtain ⟨u, h1, h2⟩ := hU hT
      have h3 : rd l2 0 - 6 = (u : Int) := by omega
      cases hN : inside a1_4 ((rd_T77 s0_1 (u : Int)).f0.length : Int) with
      | false => exact fin (by rw [← hs]; simp [memS, hT, h3, hN]) (mem10out g B0 d0 s0_0 B1 d1 s0_1 B2 d2 s0_2 a1_4 a1_1 a1_2 a1_3 a1_5 A1_6 c1_6 l1_6 a1_7 A2 c2 l2 w hP hr2 hc2 u h1 h2 (by omega) hl hN)
      | true => exact fin (by rw [← hs]; simp [memS, hT, h3, hN]) (mem10 g B0 d0 s0_0 B1 d1 s0_1 B2 d2 s0_2 a1_4 a1_1 a1_2 a1_3 a1_5 A1_6 c1_6 l1_6 a1_7 A2 c2 l2 w hP hr2 hc2 u h1 h2 (by omega) hl hN)
  by_cases k11 : a1_0 = 11
  · subst k11
    have hl := hL2 rfl
    have hr := hR (by omega)
    cases hT : okClass (rd l2 0) s0_1.length with
    | false => exact fin (by rw [← hs]; simp [memS, hT]) (mem11no g B0 d0 s0_0 B1 d1 s0_1 B2 d2 s0_2 a1_4 a1_1 a1_2 a1_3 a1_5 A1_6 c1_6 l1_6 a1_7 A2 c2 l2 w hP hr2 hc2 _ rfl hr hT (by omega))
    | true =>
      obtain ⟨u, h1, h2⟩ := hU hT
      have h3 : rd l2 0 - 6 = (u : Int) := by omega
      cases hN : inside a1_4 ((rd_T77 s0_1 (u : Int)).f0.length : Int) with
      | false => exact fin (by rw [← hs]; simp [memS, hT, h3, hN]) (mem11out g B0 d0 s0_0 B1 d1 s0_1 B2 d2 s0_2 a1_4 a1_1 a1_2 a1_3 a1_5 A1_6 c1_6 l1_6 a1_7 A2 c2 l2 w hP hr2 hc2 u h1 h2 (by omega) (by omega) hN)
      | true => exact fin (by rw [← hs]; simp [memS, hT, h3, hN]) (mem11 g B0 d0 s0_0 B1 d1 s0_1 B2 d2 s0_2 a1_4 a1_1 a1_2 a1_3 a1_5 A1_6 c1_6 l1_6 a1_7 A2 c2 l2 w hP hr2 hc2 u h1 h2 (by omega) hl _ rfl hN)
  exact fin (by rw [← hs]; simp [memS, k9, k10, k11, k12, k13, k14, k15, k16, k17, k18, k19, k20, k21, k22]) (memno g B0 d0 s0_0 B1 d1 s0_1 B2 d2 s0_2 a1_4 a1_1 a1_2 a1_3 a1_5 A1_6 c1_6 l1_6 a1_7 A2 c2 l2 w hP hr2 hc2 a1_0 k9 k10 k11 k12 k13 k14 k15 k16 k17 k18 k19 k20 k21 k22)

end Go.Proofs.YtbjdiaefchcbjaaDoor.PKindResults
