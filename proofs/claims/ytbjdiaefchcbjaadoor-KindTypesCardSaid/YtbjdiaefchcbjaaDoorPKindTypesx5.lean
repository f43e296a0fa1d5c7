-- written by wip/print2.py
import Derived.Test.YtbjdiaefchcbjaaDoorPKindTypesx0
import Derived.Test.YtbjdiaefchcbjaaDoorPKindTypesx1
import Derived.Test.YtbjdiaefchcbjaaDoorPKindTypesx2
import Derived.Test.YtbjdiaefchcbjaaDoorPKindTypesx4
namespace Go.Proofs.YtbjdiaefchcbjaaDoor.PKindTypes
open Go.RowKit Go.Proofs.YtbjdiaefchcbjaaDoorW.PrintWords Go.Proofs.YtbjdiaefchcbjaaDoorW.PrintLast Go.Proofs.YtbjdiaefchcbjaaDoorW.PrintMore
attribute [local go_sem] max2_int min2_int max_two min_two max_three min_three max_four min_four   -- for this text's walks alone
set_option linter.unusedVariables false
set_option linter.unusedSimpArgs false

/-! ### hallmarkref04_Ints: function 20 -/
def hallmarkref04_Ints.l0 : Nat → List Int → List Int → Int → Option (Bool)
  | 0, _, _, _ => none
  | k + 1, x0, x1, x5 => if x5 < (x0.length : Int) then (if 0 ≤ x5 then (if x5 < (x1.length : Int) then (if (rd x0 x5) = (rd x1 x5) then (hallmarkref04_Ints.l0 k x0 x1 (wrap64 (x5 + 1))) else (some false)) else (none)) else (none)) else (some true)
def hallmarkref04_Ints.f (k : Nat) (l0 : List Int) (l1 : List Int) : Option (Bool) := if (l0.length : Int) = (l1.length : Int) then (hallmarkref04_Ints.l0 k l0 l1 0) else (some false)
theorem hallmarkref04_Ints.mono_l : ∀ k, (∀ y0 y1 y2, LeO (hallmarkref04_Ints.l0 k y0 y1 y2) (hallmarkref04_Ints.l0 (k + 1) y0 y1 y2))
  | 0 => fun _ _ _ r h => by simp [hallmarkref04_Ints.l0] at h
  | k + 1 => by
    have ih0 := hallmarkref04_Ints.mono_l k
    · intro y0 y1 y2
      unfold hallmarkref04_Ints.l0
      repeat' first
      | (with_reducible exact ih0 _ _ _)
      | (with_reducible exact LeO.refl _)
      | (with_reducible exact LeO.none _)
      | (with_reducible refine LeO.ite ?_ ?_)
      | (with_reducible refine LeO.bind ?_ (fun _ => ?_))
      | exact ih0 _ _ _
      | exact LeO.none _
      | refine LeO.ite ?_ ?_
      | refine LeO.bind ?_ (fun _ => ?_)
theorem hallmarkref04_Ints.mono : ∀ a0 a1 k, LeO (hallmarkref04_Ints.f k a0 a1) (hallmarkref04_Ints.f (k + 1) a0 a1) := by
  intro a0 a1 k
  have ih0 := hallmarkref04_Ints.mono_l k
  unfold hallmarkref04_Ints.f
  repeat' first
      | (with_reducible exact ih0 _ _ _)
      | (with_reducible exact LeO.refl _)
      | (with_reducible exact LeO.none _)
      | (with_reducible refine LeO.ite ?_ ?_)
      | (with_reducible refine LeO.bind ?_ (fun _ => ?_))
      | exact ih0 _ _ _
      | exact LeO.none _
      | refine LeO.ite ?_ ?_
      | refine LeO.bind ?_ (fun _ => ?_)
set_option maxHeartbeats 8000000 in
set_option maxRecDepth 100000 in
theorem hallmarkref04_Ints.calls (k : Nat) (A0 : Option Addr) (c0 : Nat) (l0 : List Int) (A1 : Option Addr) (c1 : Nat) (l1 : List Int) (r : Bool) (w : World) (hr0 : Kd.C (Kd.int .i64) w A0 l0.length l0) (hc0 : l0.length ≤ c0) (hr1 : Kd.C (Kd.int .i64) w A1 l1.length l1) (hc1 : l1.length ≤ c1) (h : hallmarkref04_Ints.f k l0 l1 = some r) :
    Calls Tryd.prog 20 #[.slice A0 l0.length c0, .slice A1 l1.length c1] w fun e w' => e = .returned (.bool r) ∧ Drawn0 w w' := by
  have HR0 := Aside0.mk hr0
  have HC0 := Aside0.mk hc0
  clear hr0 hc0
  have HR1 := Aside0.mk hr1
  have HC1 := Aside0.mk hc1
  clear hr1 hc1
  have H : (if (l0.length : Int) = (l1.length : Int) then (hallmarkref04_Ints.l0 k l0 l1 0) else (some false)) = some r := h
  clear h
  by_cases c3 : (l0.length : Int) = (l1.length : Int)
  · rw [if_pos c3] at H
    have c3b0 : ((l0.length : Int) == (l1.length : Int)) = true := beq_iff_eq.mpr c3
    have c3b1 : ((l0.length : Int) != (l1.length : Int)) = false := bne_eq_false_iff_eq.mpr c3
    have c3b2 : (l0.length == l1.length) = true := by first | simpa using c3 | (simp at c3 ⊢; omega)
    clear c3
    have H' := Aside0.mk H
    clear H
    go_enter Tryd.func20, Tryd.ntmps20
    go_wp2
    repeat (go_quiet (fail); try go_wp2)
    go_loopg [5] k (fun kq v5 w' => ∃ (x5_1 : Int), v5 = .int .i64 x5_1 ∧ Aside0 (hallmarkref04_Ints.l0 kq l0 l1 x5_1 = some r) ∧ Aside0 (kq ≤ k) ∧ Drawn0 w w')
    case atStart => exact ⟨(0), (by first | rfl | (simp; done) | (simp [*]; done)), H', ⟨Nat.le_refl _⟩, by repeat (first | exact Drawn0.refl _ | apply Drawn0.step)⟩
    case round =>
      clear H'
      try clear c1
      try clear c2
      try clear p2
      try clear c3
      try clear c3b0
      try clear c3b1
      try clear c3b2
      obtain ⟨x5_1, rfl, HA, HK1, ⟨m1, rfl⟩⟩ := hrel
      cases gk with
      | zero => exact absurd HA.out (by simp [hallmarkref04_Ints.l0])
      | succ k1 =>
        have H := HA.out
        clear HA
        simp only [hallmarkref04_Ints.l0] at H
        by_cases c4 : x5_1 < (l0.length : Int)
        · rw [if_pos c4] at H
          have c4b0 : decide (x5_1 < (l0.length : Int)) = true := decide_eq_true c4
          clear c4
          by_cases c5 : 0 ≤ x5_1
          · rw [if_pos c5] at H
            have c5b0 : decide (0 ≤ x5_1) = true := decide_eq_true c5
            clear c5
            by_cases c6 : x5_1 < (l1.length : Int)
            · rw [if_pos c6] at H
              have c6b0 : decide (x5_1 < (l1.length : Int)) = true := decide_eq_true c6
              clear c6
              by_cases c7 : (rd l0 x5_1) = (rd l1 x5_1)
              · rw [if_pos c7] at H
                have c7b0 : ((rd l0 x5_1) == (rd l1 x5_1)) = true := beq_iff_eq.mpr c7
                have c7b1 : ((rd l0 x5_1) != (rd l1 x5_1)) = false := bne_eq_false_iff_eq.mpr c7
                clear c7
                have H' := Aside0.mk H
                clear H
                have p112 : 0 ≤ (x5_1 : Int) := of_decide_eq_true (by first | (with_reducible assumption) | assumption)
                have q112 : x5_1 < (l0.length : Int) := of_decide_eq_true (by first | (with_reducible assumption) | assumption)
                obtain ⟨ad112, e112, hx112_0⟩ := Kd.at_int HR0.out x5_1 p112 q112
                cases e112
                replace p112 := eq_true p112
                replace q112 := eq_true q112
                have p113 : 0 ≤ (x5_1 : Int) := of_decide_eq_true (by first | (with_reducible assumption) | assumption)
                have q113 : x5_1 < (l1.length : Int) := of_decide_eq_true (by first | (with_reducible assumption) | assumption)
                obtain ⟨ad113, e113, hx113_0⟩ := Kd.at_int HR1.out x5_1 p113 q113
                cases e113
                replace p113 := eq_true p113
                replace q113 := eq_true q113
                go_wp2
                repeat (go_quiet (fail); try go_wp2)
                go_roundg k1
                case measure => have := HK1.out; omega
                case rel => exact ⟨(wrap64 (x5_1 + 1)), (by first | rfl | (simp; done) | (simp [*]; done)), H', ⟨by have := HK1.out; omega⟩, by repeat (first | exact Drawn0.refl _ | apply Drawn0.step)⟩
              · rw [if_neg c7] at H
                have c7b0 : ((rd l0 x5_1) == (rd l1 x5_1)) = false := beq_eq_false_iff_ne.mpr c7
                have c7b1 : ((rd l0 x5_1) != (rd l1 x5_1)) = true := bne_iff_ne.mpr c7
                obtain rfl := Option.some.inj H
                have p112 : 0 ≤ (x5_1 : Int) := of_decide_eq_true (by first | (with_reducible assumption) | assumption)
                have q112 : x5_1 < (l0.length : Int) := of_decide_eq_true (by first | (with_reducible assumption) | assumption)
                obtain ⟨ad112, e112, hx112_0⟩ := Kd.at_int HR0.out x5_1 p112 q112
                cases e112
                replace p112 := eq_true p112
                replace q112 := eq_true q112
                have p113 : 0 ≤ (x5_1 : Int) := of_decide_eq_true (by first | (with_reducible assumption) | assumption)
                have q113 : x5_1 < (l1.length : Int) := of_decide_eq_true (by first | (with_reducible assumption) | assumption)
                obtain ⟨ad113, e113, hx113_0⟩ := Kd.at_int HR1.out x5_1 p113 q113
                cases e113
                replace p113 := eq_true p113
                replace q113 := eq_true q113
                go_wp2
                repeat (go_quiet (fail); try go_wp2)
                go_ret
                exact ⟨by first | rfl | (simp; done) | (simp [*]; done), by repeat (first | exact Drawn0.refl _ | apply Drawn0.step)⟩
            · rw [if_neg c6] at H
              exact absurd H (by simp)
          · rw [if_neg c5] at H
            exact absurd H (by simp)
        · rw [if_neg c4] at H
          have c4b0 : decide (x5_1 < (l0.length : Int)) = false := decide_eq_false c4
          clear c4
          obtain rfl := Option.some.inj H
          go_wp2
          repeat (go_quiet (fail); try go_wp2)
          go_ret
          exact ⟨by first | rfl | (simp; done) | (simp [*]; done), by repeat (first | exact Drawn0.refl _ | apply Drawn0.step)⟩
  · rw [if_neg c3] at H
    have c3b0 : ((l0.length : Int) == (l1.length : Int)) = false := beq_eq_false_iff_ne.mpr c3
    have c3b1 : ((l0.length : Int) != (l1.length : Int)) = true := bne_iff_ne.mpr c3
    have c3b2 : (l0.length == l1.length) = false := by first | simpa using c3 | (simp at c3 ⊢; omega)
    obtain rfl := Option.some.inj H
    go_enter Tryd.func20, Tryd.ntmps20
    go_wp2
    repeat (go_quiet (fail); try go_wp2)
    go_ret
    exact ⟨by first | rfl | (simp; done) | (simp [*]; done), by repeat (first | exact Drawn0.refl _ | apply Drawn0.step)⟩

/-! ### hallmarklaw04_lives: function 10 -/
theorem lit2 (W : World) (x y : Int) : Kd.C (Kd.int .i64) (W.alloc (.cells #[.int .i64 x, .int .i64 y] 3)) (some ⟨W.heap.size, 0, none⟩) 2 [x, y] := by
  have h := World.ownsRow_lit (base := 0) (e := 3) (size := 1) W #[.int .i64 x, .int .i64 y] 2 (Nat.zero_le _) (by simp [maxLen]) rfl
  exact (Kd.R_reads' (Kd.R_of_own (enc := fun x : Int => Value.int .i64 x) (h1 := fun _ => rfl) (xs := [x, y]) (ok := fun _ => True) h (fun _ _ => trivial))).2.2
theorem lit3 (W : World) (x y z : Int) : Kd.C (Kd.int .i64) (W.alloc (.cells #[.int .i64 x, .int .i64 y, .int .i64 z] 3)) (some ⟨W.heap.size, 0, none⟩) 3 [x, y, z] := by
  have h := World.ownsRow_lit (base := 0) (e := 3) (size := 1) W #[.int .i64 x, .int .i64 y, .int .i64 z] 3 (Nat.zero_le _) (by simp [maxLen]) rfl
  exact (Kd.R_reads' (Kd.R_of_own (enc := fun x : Int => Value.int .i64 x) (h1 := fun _ => rfl) (xs := [x, y, z]) (ok := fun _ => True) h (fun _ _ => trivial))).2.2
def hallmarklaw04_lives.f : Option Bool := some true
set_option maxHeartbeats 4000000 in
set_option maxRecDepth 100000 in
theorem hallmarklaw04_lives.calls (r : Bool) (w : World) (h : hallmarklaw04_lives.f = some r) (hG : Door.Laid w) :
    Calls Tryd.prog 10 #[] w fun e w' => e = .returned (.bool r) ∧ Below w.heap.size w w' := by
  obtain rfl := Option.some.inj h
  clear h
  have HG := Aside0.mk hG
  clear hG
  have HB := Aside0.mk (Below.refl w.heap.size w)
  have hf : kind_Flags.f 6 15 0 0 0 0 ByteArray.empty [] false = some 3 := by decide
  have hu : kind_Uses.f 24 4 0 0 0 ByteArray.empty [1, 2] false = some [4, 1, 2] := by decide
  have hi : hallmarkref04_Ints.f 4 [4, 1, 2] [4, 1, 2] = some true := by
    unfold hallmarkref04_Ints.f
    simp [hallmarkref04_Ints.l0, rd, wrap64]
  have hn0 : Kd.C (Kd.int .i64) w none 0 [] := (Kd.R_reads' (Kd.R_nil (Kd.int .i64) 3 w 0 (fun _ => True))).2.2
  have HF := Aside0.mk hf
  have HU := Aside0.mk hu
  have HI := Aside0.mk hi
  have HN := Aside0.mk hn0
  clear hf hu hi hn0
  go_enter Tryd.func10, Tryd.ntmps10
  go_wp2_with (first
    | (go_at_call 11; refine (kind_Flags.calls 6 15 0 0 0 0 ByteArray.empty none 0 [] false 3 w HN.out (Nat.le_refl _) HF.out).mono ?_; rintro e w1 ⟨rfl, hb⟩; have HB1 := Aside0.mk (below_step HB.out hb); clear hb)
    | (go_at_call 19; refine (kind_Uses.calls 24 4 0 0 0 ByteArray.empty _ _ [1, 2] false [4, 1, 2] _ (lit2 _ 1 2) (Nat.le_refl _) HU.out (HG.out.on (below_alloc HB1.out _))).mono ?_; rintro e w2 ⟨v, rfl, hv, hb⟩; obtain ⟨A, c, rfl, hc, hA⟩ := Kd.R_reads hv; have HA := Aside0.mk hA; have HC := Aside0.mk hc; have HB2 := Aside0.mk (below_step (below_alloc HB1.out _) hb); clear hb hA hc hv)
    | (go_at_call 20; refine (hallmarkref04_Ints.calls 4 _ _ [4, 1, 2] _ _ [4, 1, 2] true _ (Kd.C_below HA.out (below_alloc (Below.refl _ _) _)) HC.out (lit3 _ 4 1 2) (Nat.le_refl _) HI.out).mono ?_; rintro e w3 ⟨rfl, hb⟩; have HD3 := Aside0.mk hb; clear hb)
    | (go_at_call 8; refine (kind_Type.nil_face _).mono ?_; rintro e w4 ⟨rfl, rfl⟩))
  go_ret
  exact ⟨rfl, below_step (below_alloc HB2.out _) HD3.out.below⟩

/-! ### hallmarklaw04_KindTypes: function 3 -/
def hallmarklaw04_KindTypes.f (l0_0 : List (S73)) (l0_1 : List (S77)) (l0_2 : List (S66)) (a1 : Int) : Option Bool :=
  if l0_1.length ≤ 9223372036854775807 ∧ (-9223372036854775808 ≤ a1 ∧ a1 ≤ 9223372036854775807) then some true else none
set_option maxHeartbeats 4000000 in
set_option maxRecDepth 100000 in
theorem hallmarklaw04_KindTypes.calls (A0_0 : Option Addr) (c0_0 : Nat) (l0_0 : List (S73)) (A0_1 : Option Addr) (c0_1 : Nat) (l0_1 : List (S77)) (A0_2 : Option Addr) (c0_2 : Nat) (l0_2 : List (S66)) (a1 : Int) (r : Bool) (w : World) (hr0_0 : Kd.C k73 w A0_0 l0_0.length l0_0) (hc0_0 : l0_0.length ≤ c0_0) (hr0_1 : Kd.C k77 w A0_1 l0_1.length l0_1) (hc0_1 : l0_1.length ≤ c0_1) (hr0_2 : Kd.C k66 w A0_2 l0_2.length l0_2) (hc0_2 : l0_2.length ≤ c0_2) (h : hallmarklaw04_KindTypes.f l0_0 l0_1 l0_2 a1 = some r) (hG : Door.Laid w) :
    Calls Tryd.prog 3 #[.agg #[.slice A0_0 l0_0.length c0_0, .slice A0_1 l0_1.length c0_1, .slice A0_2 l0_2.length c0_2], .int .i64 a1] w fun e w' => e = .returned (.bool r) ∧ Below w.heap.size w w' := by
  unfold hallmarklaw04_KindTypes.f at h
  split at h
  rotate_left
  · cases h
  rename_i hg
  obtain rfl := Option.some.inj h
  have HG := Aside0.mk hG
  have HL := Aside0.mk hg
  clear h hG hg hr0_0 hc0_0 hr0_1 hc0_1 hr0_2 hc0_2
  have HB := Aside0.mk (Below.refl w.heap.size w)
  obtain ⟨b, hb_⟩ : ∃ b, isType a1 l0_1.length = b := ⟨_, rfl⟩
  have T1 : ∀ X : World, X.cell? ⟨w.heap.size, 1, none⟩ = some (.slice A0_1 l0_1.length c0_1) → Calls Tryd.prog 8 #[.pointer (some ⟨w.heap.size, 0, none⟩), .int .i64 a1] X fun e w' => e = .returned (.bool b) ∧ Drawn0 X w' := fun X h => by
    have := kind_Type.at_ a1 HL.out.2 w.heap.size l0_1.length c0_1 HL.out.1 A0_1 X h
    rw [hb_] at this
    exact this
  have T2 : ∀ X : World, X.cell? ⟨w.heap.size, 1, none⟩ = some (.slice A0_1 l0_1.length c0_1) → Calls Tryd.prog 9 #[.pointer (some ⟨w.heap.size, 0, none⟩), .int .i64 a1] X fun e w' => e = .returned (.bool b) ∧ Drawn0 X w' := fun X h => by
    have := hallmarkref04_Type.at_ a1 HL.out.2 w.heap.size l0_1.length c0_1 HL.out.1 A0_1 X h
    rw [hb_] at this
    exact this
  have HT1 := Aside0.mk T1
  have HT2 := Aside0.mk T2
  clear hb_ T1 T2 HL
  obtain ⟨W1, hW1⟩ : ∃ W1, w.alloc (.cells #[.slice A0_0 l0_0.length c0_0, .slice A0_1 l0_1.length c0_1, .slice A0_2 l0_2.length c0_2] 26) = W1 := ⟨_, rfl⟩
  have hcell : W1.cell? ⟨w.heap.size, 1, none⟩ = some (.slice A0_1 l0_1.length c0_1) := by rw [← hW1]; exact blk_cell (heap_alloc_new w _) 1
  have HC := Aside0.mk hcell
  have hb1 : Below w.heap.size w W1 := by rw [← hW1]; exact below_alloc HB.out _
  have HB1 := Aside0.mk hb1
  have hlt : w.heap.size < W1.heap.size := by rw [← hW1]; simp
  have HLT := Aside0.mk hlt
  clear hcell hb1 hlt
  go_enter Tryd.func3, Tryd.ntmps3
  have HW := Aside0.mk hW1
  go_wp2_with (first
    | (go_at_call 8; with_reducible refine (kind_Type.nil_ptr _).mono ?_; rintro e w4 ⟨rfl, rfl⟩)
    | (go_at_call 8; with_reducible refine (HT1.out _ HC.out).mono ?_; rintro e w4 ⟨rfl, hd1⟩; have HD1 := Aside0.mk hd1; clear hd1)
    | (go_at_call 9; with_reducible refine (HT2.out _ (by rw [HD1.out.below.cell (HLT.out)]; exact HC.out)).mono ?_; rintro e w4 ⟨rfl, hd2⟩; have HD2 := Aside0.mk hd2; clear hd2)
    | (go_at_call 10; with_reducible refine (hallmarklaw04_lives.calls true _ rfl (HG.out.on (by exact below_step (below_step HB1.out HD1.out.below) HD2.out.below))).mono ?_; rintro e w5 ⟨rfl, hb5⟩; have HB5 := Aside0.mk hb5; clear hb5))
  go_ret
  exact ⟨rfl, below_step (below_step (below_step HB1.out HD1.out.below) HD2.out.below) HB5.out⟩

open Opens
def V73 (x : S73) : Prop := (x.f0.length * 8 ≤ 140737488351232 ∧ x.f0.length ≤ maxLen ∧ ∀ y ∈ x.f0, (Lit.int .i64 y).wf = true) ∧ (Lit.int .i64 x.f1).wf = true
theorem opens73 : OpensAs Tryd.prog k73 V73 73 := opens_iso (fun x : S73 => (x.f0, x.f1)) (fun p => ⟨p.1, p.2⟩) (fun _ => rfl) (opens_struct Tryd.underlying73 (by kernel_rfl) (fields_cons rfl (opens_slice Tryd.underlying31 (by kernel_rfl) (opens_int Tryd.underlying3 (by kernel_rfl)) (B := 8) (by kernel_rfl)) (fields_one rfl (opens_int Tryd.underlying3 (by kernel_rfl)))))
def V77 (x : S77) : Prop := (x.f0.length * 8 ≤ 140737488351232 ∧ x.f0.length ≤ maxLen ∧ ∀ y ∈ x.f0, (Lit.int .i64 y).wf = true) ∧ (x.f1.length * 8 ≤ 140737488351232 ∧ x.f1.length ≤ maxLen ∧ ∀ y ∈ x.f1, (Lit.int .i64 y).wf = true)
theorem opens77 : OpensAs Tryd.prog k77 V77 77 := opens_iso (fun x : S77 => (x.f0, x.f1)) (fun p => ⟨p.1, p.2⟩) (fun _ => rfl) (opens_struct Tryd.underlying77 (by kernel_rfl) (fields_cons rfl (opens_slice Tryd.underlying31 (by kernel_rfl) (opens_int Tryd.underlying3 (by kernel_rfl)) (B := 8) (by kernel_rfl)) (fields_one rfl (opens_slice Tryd.underlying31 (by kernel_rfl) (opens_int Tryd.underlying3 (by kernel_rfl)) (B := 8) (by kernel_rfl)))))
def V33 (x : S33) : Prop := (Lit.int .i64 x.f0).wf = true ∧ (Lit.int .i64 x.f1).wf = true ∧ (Lit.int .i64 x.f2).wf = true ∧ (Lit.int .i64 x.f3).wf = true ∧ (Lit.int .i64 x.f4).wf = true ∧ x.f5.size ≤ 140737488351232 ∧ (x.f6.length * 8 ≤ 140737488351232 ∧ x.f6.length ≤ maxLen ∧ ∀ y ∈ x.f6, (Lit.int .i64 y).wf = true) ∧ True
theorem opens33 : OpensAs Tryd.prog k33 V33 33 := opens_iso (fun x : S33 => (x.f0, x.f1, x.f2, x.f3, x.f4, x.f5, x.f6, x.f7)) (fun p => ⟨p.1, p.2.1, p.2.2.1, p.2.2.2.1, p.2.2.2.2.1, p.2.2.2.2.2.1, p.2.2.2.2.2.2.1, p.2.2.2.2.2.2.2⟩) (fun _ => rfl) (opens_struct Tryd.underlying33 (by kernel_rfl) (fields_cons rfl (opens_int Tryd.underlying3 (by kernel_rfl)) (fields_cons rfl (opens_int Tryd.underlying3 (by kernel_rfl)) (fields_cons rfl (opens_int Tryd.underlying3 (by kernel_rfl)) (fields_cons rfl (opens_int Tryd.underlying3 (by kernel_rfl)) (fields_cons rfl (opens_int Tryd.underlying2 (by kernel_rfl)) (fields_cons rfl (opens_string Tryd.underlying9 (by kernel_rfl)) (fields_cons rfl (opens_slice Tryd.underlying31 (by kernel_rfl) (opens_int Tryd.underlying3 (by kernel_rfl)) (B := 8) (by kernel_rfl)) (fields_one rfl (opens_bool Tryd.underlying4 (by kernel_rfl)))))))))))
def V69 (x : S69) : Prop := (Lit.int .i64 x.f0).wf = true ∧ (Lit.int .i64 x.f1).wf = true ∧ (Lit.int .i64 x.f2).wf = true ∧ (Lit.int .i64 x.f3).wf = true ∧ (x.f4.length * 8 ≤ 140737488351232 ∧ x.f4.length ≤ maxLen ∧ ∀ y ∈ x.f4, (Lit.int .i64 y).wf = true) ∧ (x.f5.length * 8 ≤ 140737488351232 ∧ x.f5.length ≤ maxLen ∧ ∀ y ∈ x.f5, (Lit.int .i64 y).wf = true)
theorem opens69 : OpensAs Tryd.prog k69 V69 69 := opens_iso (fun x : S69 => (x.f0, x.f1, x.f2, x.f3, x.f4, x.f5)) (fun p => ⟨p.1, p.2.1, p.2.2.1, p.2.2.2.1, p.2.2.2.2.1, p.2.2.2.2.2⟩) (fun _ => rfl) (opens_struct Tryd.underlying69 (by kernel_rfl) (fields_cons rfl (opens_int Tryd.underlying3 (by kernel_rfl)) (fields_cons rfl (opens_int Tryd.underlying3 (by kernel_rfl)) (fields_cons rfl (opens_int Tryd.underlying3 (by kernel_rfl)) (fields_cons rfl (opens_int Tryd.underlying3 (by kernel_rfl)) (fields_cons rfl (opens_slice Tryd.underlying31 (by kernel_rfl) (opens_int Tryd.underlying3 (by kernel_rfl)) (B := 8) (by kernel_rfl)) (fields_one rfl (opens_slice Tryd.underlying31 (by kernel_rfl) (opens_int Tryd.underlying3 (by kernel_rfl)) (B := 8) (by kernel_rfl)))))))))
def V71 (x : S71) : Prop := (x.f0.length * 8 ≤ 140737488351232 ∧ x.f0.length ≤ maxLen ∧ ∀ y ∈ x.f0, (Lit.int .i64 y).wf = true) ∧ (x.f1.length * 88 ≤ 140737488351232 ∧ x.f1.length ≤ maxLen ∧ ∀ y ∈ x.f1, V33 y) ∧ V69 x.f2
theorem opens71 : OpensAs Tryd.prog k71 V71 71 := opens_iso (fun x : S71 => (x.f0, x.f1, x.f2)) (fun p => ⟨p.1, p.2.1, p.2.2⟩) (fun _ => rfl) (opens_struct Tryd.underlying71 (by kernel_rfl) (fields_cons rfl (opens_slice Tryd.underlying31 (by kernel_rfl) (opens_int Tryd.underlying3 (by kernel_rfl)) (B := 8) (by kernel_rfl)) (fields_cons rfl (opens_slice Tryd.underlying67 (by kernel_rfl) opens33 (B := 88) (by kernel_rfl)) (fields_one rfl opens69))))
def V66 (x : S66) : Prop := (Lit.int .i64 x.f0).wf = true ∧ (x.f1.length * 128 ≤ 140737488351232 ∧ x.f1.length ≤ maxLen ∧ ∀ y ∈ x.f1, V71 y)
theorem opens66 : OpensAs Tryd.prog k66 V66 66 := opens_iso (fun x : S66 => (x.f0, x.f1)) (fun p => ⟨p.1, p.2⟩) (fun _ => rfl) (opens_struct Tryd.underlying66 (by kernel_rfl) (fields_cons rfl (opens_int Tryd.underlying3 (by kernel_rfl)) (fields_one rfl (opens_slice Tryd.underlying64 (by kernel_rfl) opens71 (B := 128) (by kernel_rfl)))))
/-- THE ONE PURE STATEMENT of hallmarklaw04_KindTypes. -/
def hallmarklaw04_KindTypes.Pure : Prop := ∀ (l0_0 : List (S73)) (l0_1 : List (S77)) (l0_2 : List (S66)) (a1 : Int), (l0_0.length * 32 ≤ 140737488351232 ∧ l0_0.length ≤ maxLen ∧ ∀ y ∈ l0_0, V73 y) → (l0_1.length * 48 ≤ 140737488351232 ∧ l0_1.length ≤ maxLen ∧ ∀ y ∈ l0_1, V77 y) → (l0_2.length * 32 ≤ 140737488351232 ∧ l0_2.length ≤ maxLen ∧ ∀ y ∈ l0_2, V66 y) → (Lit.int .i64 a1).wf = true → ∃ k : Nat, hallmarklaw04_KindTypes.f l0_0 l0_1 l0_2 a1 = some true

end Go.Proofs.YtbjdiaefchcbjaaDoor.PKindTypes
