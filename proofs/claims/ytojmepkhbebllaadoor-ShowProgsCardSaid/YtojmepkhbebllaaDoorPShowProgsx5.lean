-- written by wip/print2.py
import Derived.Test.YtojmepkhbebllaaDoorPShowProgsx0
import Derived.Test.YtojmepkhbebllaaDoorPShowProgsx1
import Derived.Test.YtojmepkhbebllaaDoorPShowProgsx2
namespace Go.Proofs.YtojmepkhbebllaaDoor.PShowProgs
open Go.RowKit Go.Proofs.YtojmepkhbebllaaDoorW.PrintWords Go.Proofs.YtojmepkhbebllaaDoorW.PrintLast Go.Proofs.YtojmepkhbebllaaDoorW.PrintMore
attribute [local go_sem] max2_int min2_int max_two min_two max_three min_three max_four min_four   -- for this text's walks alone
set_option linter.unusedVariables false
set_option linter.unusedSimpArgs false

/-! ### show_typed: function 26 -/
def show_typed.f (a0 : Int) : Option ByteArray :=
 if a0 ≥ 6 then (show_digits.f (wrap64 (a0 - 6))).bind fun t => (if 1 + t.size ≤ 9223372036854775807 then some ((⟨#[42]⟩ : ByteArray) ++ t) else none)
 else if a0 < -1 then some ⟨#[63]⟩ else some (Door.show_types_tab.getD (a0 + 1).toNat ByteArray.empty)
set_option maxHeartbeats 4000000 in
set_option maxRecDepth 100000 in
theorem show_typed.calls (a0 : Int) (r : ByteArray) (w : World) (h : show_typed.f a0 = some r) (hG : Door.Laid w) :
  Calls Tryd.prog 26 #[.int .i64 a0] w fun e w' => e = .returned (.string r) ∧ Below w.heap.size w w' := by
 have HG := zm hG
 clear hG
 unfold show_typed.f at h
 by_cases h6 : a0 ≥ 6
 ·rw [if_pos h6] at h
  obtain ⟨t, A2, h⟩ := Option.bind_eq_some_iff.mp h
  have A2_ := zm A2
  clear A2
  by_cases c3 : 1 + t.size ≤ 9223372036854775807
  ·rw [if_pos c3] at h
   have c3b0 := eq_true c3
   have c3b1 : decide (1 + t.size ≤ 9223372036854775807) = true := decide_eq_true c3
   have c3b2 : (9223372036854775807 < 1 + t.size) = False := eq_false (Nat.not_lt.2 c3)
   obtain rfl := Option.some.inj h
   have h6b : (a0 ≥ 6) = True := eq_true h6
   have h6c : (6 ≤ a0) = True := eq_true h6
   go_enter Tryd.func26, Tryd.ntmps26
   go_wp2_with (first | (go_at_call 32; (with_reducible refine (show_digits.calls _ t _ A2_.out HG.out).mono ?_); rintro e W3 ⟨rfl, hB3⟩; refine Aside0.out ?_))
   refine ⟨?_⟩
   have HB3 := zm hB3
   clear hB3
   go_wp2
   go_ret
   exact ⟨rfl, HB3.out⟩
  ·rw [if_neg c3] at h
   exact absurd h (by simp)
 ·rw [if_neg h6] at h
  by_cases h1 : a0 < -1
  ·rw [if_pos h1] at h
   obtain rfl := Option.some.inj h
   go_enter Tryd.func26, Tryd.ntmps26
   go_wp2
   go_ret
   exact ⟨rfl, Below.refl _ _⟩
  ·rw [if_neg h1] at h
   obtain rfl := Option.some.inj h
   have hc := HG.out.show_types_at (a0 + 1).toNat (by omega)
   obtain ⟨s, hs⟩ : ∃ s, Door.show_types_tab.getD (a0 + 1).toNat ByteArray.empty = s := ⟨_, rfl⟩
   rw [hs] at hc ⊢
   have h7 : a0 = -1 ∨ a0 = 0 ∨ a0 = 1 ∨ a0 = 2 ∨ a0 = 3 ∨ a0 = 4 ∨ a0 = 5 := by omega
   clear hs h6 h1
   rcases h7 with rfl | rfl | rfl | rfl | rfl | rfl | rfl
   all_goals
    simp only [Int.reduceNeg, Int.reduceAdd, Int.reduceToNat] at hc
    go_enter Tryd.func26, Tryd.ntmps26
    go_wp2
    go_ret
    exact ⟨rfl, Below.refl _ _⟩

-- NOT PRINTED: function 66 (abi_NoEscape)

-- NOT PRINTED: function 52 (strings_Builder_copyCheck)

-- NOT PRINTED: function 29 (strings_Builder_WriteString)

-- NOT PRINTED: function 34 (strings_Builder_String)

-- NOT PRINTED: function 80 (bytealg_MakeNoZero)

-- NOT PRINTED: function 74 (strings_Builder_grow)

-- NOT PRINTED: function 67 (strings_Builder_Grow)

-- NOT PRINTED: function 53 (strings_Join)

-- NOT PRINTED: function 31 (show_many)

-- NOT PRINTED: function 30 (show_brackets)

/-! ### code_first: function 68 -/
def code_first.l0 : Nat → Int → List (S59) → Int → Int → Option (Int)
 | 0, _, _, _, _ => none
 | k + 1, x5, x16, x17, x18 => if x18 < x17 then (if 0 ≤ x18 then (if x18 < (x16.length : Int) then (code_first.l0 k (wrap64 (x5 + (wrap64 ((((rd_T59 x16 x18).f0).length : Int) + (((rd_T59 x16 x18).f1).length : Int))))) x16 x17 (wrap64 (x18 + 1))) else (none)) else (none)) else (some x5)
def code_first.f (k : Nat) (a0_0 : Int) (l0_1 : List (S59)) (a1 : Int) : Option (Int) := if 0 ≤ (mx 0 (mn a1 (l0_1.length : Int))) then (if (mx 0 (mn a1 (l0_1.length : Int))) ≤ (l0_1.length : Int) then ((some (l0_1.take ((mx 0 (mn a1 (l0_1.length : Int))) : Int).toNat : List (S59))).bind fun y133 => (code_first.l0 k 0 y133 (y133.length : Int) 0)) else (none)) else (none)
theorem code_first.mono_l : ∀ k, (∀ y0 y1 y2 y3, LeO (code_first.l0 k y0 y1 y2 y3) (code_first.l0 (k + 1) y0 y1 y2 y3))
 | 0 => fun _ _ _ _ r h => by simp [code_first.l0] at h
 | k + 1 => by
  have ih0 := code_first.mono_l k
  ·intro y0 y1 y2 y3
   unfold code_first.l0
   repeat' first
   | (with_reducible exact ih0 _ _ _ _)
   | (with_reducible exact LeO.refl _)
   | (with_reducible exact LeO.none _)
   | (with_reducible refine LeO.ite ?_ ?_)
   | (with_reducible refine LeO.bind ?_ (fun _ => ?_))
   | exact ih0 _ _ _ _
   | exact LeO.none _
   | refine LeO.ite ?_ ?_
   | refine LeO.bind ?_ (fun _ => ?_)
theorem code_first.mono : ∀ a0 a1 a2 k, LeO (code_first.f k a0 a1 a2) (code_first.f (k + 1) a0 a1 a2) := by
 intro a0 a1 a2 k
 have ih0 := code_first.mono_l k
 unfold code_first.f
 repeat' first
   | (with_reducible exact ih0 _ _ _ _)
   | (with_reducible exact LeO.refl _)
   | (with_reducible exact LeO.none _)
   | (with_reducible refine LeO.ite ?_ ?_)
   | (with_reducible refine LeO.bind ?_ (fun _ => ?_))
   | exact ih0 _ _ _ _
   | exact LeO.none _
   | refine LeO.ite ?_ ?_
   | refine LeO.bind ?_ (fun _ => ?_)
set_option maxHeartbeats 8000000 in
set_option maxRecDepth 100000 in
theorem code_first.calls (k : Nat) (a0_0 : Int) (A0_1 : Option Addr) (c0_1 : Nat) (l0_1 : List (S59)) (a1 : Int) (r : Int) (w : World) (hr0_1 : Kd.C k59 w A0_1 l0_1.length l0_1) (hc0_1 : l0_1.length ≤ c0_1) (h : code_first.f k a0_0 l0_1 a1 = some r) :
  Calls Tryd.prog 68 #[.agg #[.int .i64 a0_0, .slice A0_1 l0_1.length c0_1], .int .i64 a1] w fun e w' => e = .returned (.int .i64 r) ∧ Below w.heap.size w w' := by
 have hu44 := Tryd.underlying44
 have hu59 := Tryd.underlying59
 have HR0_1 := zm hr0_1
 have HC0_1 := zm hc0_1
 clear hr0_1 hc0_1
 have HB := zm (Below.refl w.heap.size w)
 have H : (if 0 ≤ (mx 0 (mn a1 (l0_1.length : Int))) then (if (mx 0 (mn a1 (l0_1.length : Int))) ≤ (l0_1.length : Int) then ((some (l0_1.take ((mx 0 (mn a1 (l0_1.length : Int))) : Int).toNat : List (S59))).bind fun y133 => (code_first.l0 k 0 y133 (y133.length : Int) 0)) else (none)) else (none)) = some r := h
 clear h
 obtain ⟨ji3, hji3⟩ : ∃ j_ : Int, (mn a1 (l0_1.length : Int)) = j_ := ⟨_, rfl⟩
 replace H : (if 0 ≤ (mx 0 (ji3)) then (if (mx 0 (ji3)) ≤ (l0_1.length : Int) then ((some (l0_1.take ((mx 0 (ji3)) : Int).toNat : List (S59))).bind fun y133 => (code_first.l0 k 0 y133 (y133.length : Int) 0)) else (none)) else (none)) = some r := by first | (rw [hji3] at H; exact H) | (simp only [hji3] at H ⊢; exact H)
 have hji3_ : (if (l0_1.length : Int) < a1 then (l0_1.length : Int) else a1) = ji3 := hji3
 obtain ⟨ji4, hji4⟩ : ∃ j_ : Int, (mx 0 (ji3)) = j_ := ⟨_, rfl⟩
 replace H : (if 0 ≤ (ji4) then (if (ji4) ≤ (l0_1.length : Int) then ((some (l0_1.take ((ji4) : Int).toNat : List (S59))).bind fun y133 => (code_first.l0 k 0 y133 (y133.length : Int) 0)) else (none)) else (none)) = some r := by first | (rw [hji4] at H; exact H) | (simp only [hji4] at H ⊢; exact H)
 have hji4_ : (if 0 < (ji3) then (ji3) else 0) = ji4 := hji4
 by_cases c5 : 0 ≤ (ji4)
 ·rw [if_pos c5] at H
  have c5b0 := eq_true c5
  have c5b1 : decide (0 ≤ (ji4)) = true := decide_eq_true c5
  clear c5
  by_cases c6 : (ji4) ≤ (l0_1.length : Int)
  ·rw [if_pos c6] at H
   have c6b0 := eq_true c6
   have c6b1 : decide ((ji4) ≤ (l0_1.length : Int)) = true := decide_eq_true c6
   clear c6
   obtain ⟨y133, hy133⟩ : ∃ y_ : List (S59), y_ = (l0_1.take ((ji4) : Int).toNat) := ⟨_, rfl⟩
   replace H : (code_first.l0 k 0 y133 (y133.length : Int) 0) = some r := by first | (rw [hy133]; with_reducible exact H) | (have H2_ := (Option.bind_some _ _).symm.trans H; rw [hy133]; with_reducible exact H2_) | (have H2_ := (Option.bind_some _ _).symm.trans H; with_reducible exact H2_) | with_reducible exact H | (rw [hy133]; exact H) | exact H
   have Ny133 := zm hy133
   clear hy133
   have H' := zm H
   clear H
   go_enter Tryd.func68, Tryd.ntmps68
   go_wp2_with (first | ((with_reducible refine gate_dst (N := 2) rfl ?_); refine box_event ?hg (N := 2) ?hd (cs := #[.int .i64 a0_0, .slice A0_1 l0_1.length c0_1]) (t := 44) ?hr ?_; (case hd => rfl); (case hg => rfl); (case hr => first | (go_simp; done) | (go_simp; rfl)); intro gb132 hg w7 hbox hb; have n0_ := zm (below_step (by repeat (first | (with_reducible first | exact HB.out | apply below_alloc | apply pw_below_drewN | apply below_drew1) | exact HB.out)) hb); have n1_ := zm (hbox); have n2_ := zm ((by rw [hg]; exact (below_size (by repeat (first | (with_reducible first | exact HB.out | apply below_alloc | apply pw_below_drewN | apply below_drew1) | exact HB.out))) : w.heap.size ≤ gb132)); have n3_ := zm ((by rw [hg]; exact (below_size (by repeat (first | (with_reducible first | exact HB.out | apply below_alloc | apply pw_below_drewN | apply below_drew1) | exact HB.out))) : w.heap.size ≤ gb132)); clear HB; have HB := n0_; have BK132 := n1_; have GW132 := n2_; have GE132 := n3_; clear n0_ n1_ n2_ n3_; clear hb hbox hg; have hcz8_0 : w7.cell? ⟨gb132, 0, none⟩ = some (.int .i64 a0_0) := (blk_cell BK132.out 0).trans rfl; have hcz8_1 : w7.cell? ⟨gb132, 1, none⟩ = some (.slice A0_1 l0_1.length c0_1) := (blk_cell BK132.out 1).trans rfl; have hfz8_0 := blk_frozen BK132.out 0; have hfz8_1 := blk_frozen BK132.out 1; have q9 : ((ji4) : Int) ≤ ((l0_1.length : Int) : Int) := of_decide_eq_true (by first | (with_reducible assumption) | assumption); obtain ⟨i09, hi09, _, hsz9, _⟩ := info_parts info59; have hroom9 : l0_1.length ≤ c0_1 := HC0_1.out; have hC9 : Kd.C k59 _ A0_1 l0_1.length l0_1 := HR0_1.out; have hcut9 := cut_to (P := Tryd.prog) 42 59 .i64 Tryd.underlying42 hi09 A0_1 l0_1.length c0_1 (ji4) (of_decide_eq_true (by first | (with_reducible assumption) | assumption)) q9 hroom9; have hr9 := Kd.C_take (m := ((ji4) : Int).toNat) hC9 (by omega); have hy9 : y133.length = ((ji4) : Int).toNat := (by rw [Ny133.out, List.length_take]; omega); rw [← Ny133.out] at hr9; rw [← hy9] at hcut9; have HR136 := zm hr9; have HC136 := zm (show y133.length ≤ c0_1 from by omega); clear hr9 hC9 hroom9 hi09 hsz9; have KY9 := zm hy9; clear hy9; replace q9 := eq_true q9))
   go_loopg [5, 18] k (fun kq v5 v18 w' => ∃ (x5_1 : Int) (x18_1 : Int), v5 = .int .i64 x5_1 ∧ v18 = .int .i64 x18_1 ∧ Aside0 (code_first.l0 kq x5_1 y133 (y133.length : Int) x18_1 = some r) ∧ Aside0 (kq ≤ k) ∧ Aside0 (w'.heap[gb132]? = some (.cells #[.int .i64 a0_0, (.slice A0_1 l0_1.length c0_1)] 44 (0, 0))) ∧ Aside0 (Below w.heap.size w w'))
   case atStart => exact ⟨(0), (0), (by first | rfl | (simp; done) | (simp [*]; done) | (simp [*, wrap64]; done) | (simp [*]; unfold wrap64; omega)), (by first | rfl | (simp; done) | (simp [*]; done) | (simp [*, wrap64]; done) | (simp [*]; unfold wrap64; omega)), H', ⟨Nat.le_refl _⟩, ⟨by (with_reducible repeat (first | refine blk_drewN ?_ _ | refine blk_drew ?_ | refine blk_alloc ?_ _)); exact BK132.out⟩, ⟨by repeat (first | (with_reducible first | exact HB.out | apply below_alloc | apply pw_below_drewN | apply below_drew1 | refine below_set ?_ GE132.out) | exact HB.out)⟩⟩
   case round =>
    clear H'
    try clear p2
    try clear c5
    try clear c5b0
    try clear c5b1
    try clear c6
    try clear c6b0
    try clear c6b1
    try clear q9
    try clear hcz8_0
    try clear hcz8_1
    try clear hfz8_0
    try clear hfz8_1
    try clear q9
    obtain ⟨x5_1, x18_1, rfl, rfl, HA, HK1, BK132, HB⟩ := hrel
    cases gk with
    | zero => exact absurd HA.out (by simp [code_first.l0])
    | succ k1 =>
     have H := HA.out
     clear HA
     simp only [code_first.l0] at H
     by_cases c10 : x18_1 < (y133.length : Int)
     ·rw [if_pos c10] at H
      have c10b0 : decide (x18_1 < (y133.length : Int)) = true := decide_eq_true c10
      clear c10
      by_cases c11 : 0 ≤ x18_1
      ·rw [if_pos c11] at H
       have c11b0 : decide (0 ≤ x18_1) = true := decide_eq_true c11
       clear c11
       by_cases c12 : x18_1 < (y133.length : Int)
       ·rw [if_pos c12] at H
        have c12b0 : decide (x18_1 < (y133.length : Int)) = true := decide_eq_true c12
        clear c12
        have H' := zm H
        clear H
        have p137 : 0 ≤ (x18_1 : Int) := of_decide_eq_true (by first | (with_reducible assumption) | assumption)
        have q137 : x18_1 < (y133.length : Int) := of_decide_eq_true (by first | (with_reducible assumption) | assumption)
        obtain ⟨ad137, A137_0, c137_0, A137_1, c137_1, A137_6, c137_6, A137_7, c137_7, e137, hx137_0, hx137_1, hx137_2, hx137_3, hx137_4, hx137_5, hx137_6, hx137_7, hl137_0, hi137_0, hl137_1, hi137_1, hl137_6, hi137_6, hl137_7, hi137_7⟩ := at_T59 HR136.out x18_1 p137 q137
        cases e137
        replace hx137_0 := (HB.out.cell (World.block_lt_of_cell? w _ hx137_0)).trans hx137_0
        replace hx137_1 := (HB.out.cell (World.block_lt_of_cell? w _ hx137_1)).trans hx137_1
        replace hx137_2 := (HB.out.cell (World.block_lt_of_cell? w _ hx137_2)).trans hx137_2
        replace hx137_3 := (HB.out.cell (World.block_lt_of_cell? w _ hx137_3)).trans hx137_3
        replace hx137_4 := (HB.out.cell (World.block_lt_of_cell? w _ hx137_4)).trans hx137_4
        replace hx137_5 := (HB.out.cell (World.block_lt_of_cell? w _ hx137_5)).trans hx137_5
        replace hx137_6 := (HB.out.cell (World.block_lt_of_cell? w _ hx137_6)).trans hx137_6
        replace hx137_7 := (HB.out.cell (World.block_lt_of_cell? w _ hx137_7)).trans hx137_7
        have HR137_0 := zm hi137_0
        have HC137_0 := zm hl137_0
        clear hi137_0 hl137_0
        have HR137_1 := zm hi137_1
        have HC137_1 := zm hl137_1
        clear hi137_1 hl137_1
        have HR137_6 := zm hi137_6
        have HC137_6 := zm hl137_6
        clear hi137_6 hl137_6
        have HR137_7 := zm hi137_7
        have HC137_7 := zm hl137_7
        clear hi137_7 hl137_7
        replace p137 := eq_true p137
        replace q137 := eq_true q137
        go_wp2_with (first | ((with_reducible refine gate_dst (N := 7) rfl ?_); refine box_event ?hg (N := 7) ?hd (cs := #[.slice none 0 0, .slice none 0 0, .int .i64 0, .int .i64 0, .int .i64 0, .int .i64 0, .slice none 0 0, .slice none 0 0]) (t := 59) ?hr ?_; (case hd => rfl); (case hg => rfl); (case hr => first | (go_simp; done) | (go_simp; rfl)); intro gb138 hg w13 hbox hb; have n0_ := zm (blk_below (g := gb132) (o := .cells #[.int .i64 a0_0, .slice (some ad137) l0_1.length c0_1] 44 (0, 0)) (by (with_reducible repeat (first | refine blk_drewN ?_ _ | refine blk_drew ?_ | refine blk_alloc ?_ _)); exact BK132.out) hb); have n1_ := zm (below_step (by repeat (first | (with_reducible first | exact HB.out | apply below_alloc | apply pw_below_drewN | apply below_drew1 | refine below_set ?_ GE132.out) | exact HB.out)) hb); have n2_ := zm (hbox); have n3_ := zm ((by rw [hg]; exact (below_size (by repeat (first | (with_reducible first | exact HB.out | apply below_alloc | apply pw_below_drewN | apply below_drew1 | refine below_set ?_ GE132.out) | exact HB.out))) : w.heap.size ≤ gb138)); have n4_ := zm ((by rw [hg]; exact (below_size (by repeat (first | (with_reducible first | exact HB.out | apply below_alloc | apply pw_below_drewN | apply below_drew1 | refine below_set ?_ GE132.out) | exact HB.out))) : w.heap.size ≤ gb138)); have n5_ := zm ((by rw [hg]; exact Nat.ne_of_lt (blk_lt (g := gb132) (o := .cells #[.int .i64 a0_0, .slice (some ad137) l0_1.length c0_1] 44 (0, 0)) (by (with_reducible repeat (first | refine blk_drewN ?_ _ | refine blk_drew ?_ | refine blk_alloc ?_ _)); exact BK132.out)) : gb132 ≠ gb138)); have n6_ := zm ((by rw [hg]; exact Nat.ne_of_gt (blk_lt (g := gb132) (o := .cells #[.int .i64 a0_0, .slice (some ad137) l0_1.length c0_1] 44 (0, 0)) (by (with_reducible repeat (first | refine blk_drewN ?_ _ | refine blk_drew ?_ | refine blk_alloc ?_ _)); exact BK132.out)) : gb138 ≠ gb132)); clear BK132; clear HB; have BK132 := n0_; have HB := n1_; have BK138 := n2_; have GW138 := n3_; have GE138 := n4_; have NB132_138 := n5_; have NB138_132 := n6_; clear n0_ n1_ n2_ n3_ n4_ n5_ n6_; clear hb hbox hg; have hnb14 := NB138_132.out; have hnc14 := NB132_138.out; have hcz15_0 : w13.cell? ⟨gb138, 0, none⟩ = some (.slice none 0 0) := (blk_cell BK138.out 0).trans rfl; have hcz15_1 : w13.cell? ⟨gb138, 1, none⟩ = some (.slice none 0 0) := (blk_cell BK138.out 1).trans rfl; have hcz15_2 : w13.cell? ⟨gb138, 2, none⟩ = some (.int .i64 0) := (blk_cell BK138.out 2).trans rfl; have hcz15_3 : w13.cell? ⟨gb138, 3, none⟩ = some (.int .i64 0) := (blk_cell BK138.out 3).trans rfl; have hcz15_4 : w13.cell? ⟨gb138, 4, none⟩ = some (.int .i64 0) := (blk_cell BK138.out 4).trans rfl; have hcz15_5 : w13.cell? ⟨gb138, 5, none⟩ = some (.int .i64 0) := (blk_cell BK138.out 5).trans rfl; have hcz15_6 : w13.cell? ⟨gb138, 6, none⟩ = some (.slice none 0 0) := (blk_cell BK138.out 6).trans rfl; have hcz15_7 : w13.cell? ⟨gb138, 7, none⟩ = some (.slice none 0 0) := (blk_cell BK138.out 7).trans rfl; have hfz15_0 := blk_frozen BK138.out 0; have hfz15_1 := blk_frozen BK138.out 1; have hfz15_2 := blk_frozen BK138.out 2; have hfz15_3 := blk_frozen BK138.out 3; have hfz15_4 := blk_frozen BK138.out 4; have hfz15_5 := blk_frozen BK138.out 5; have hfz15_6 := blk_frozen BK138.out 6; have hfz15_7 := blk_frozen BK138.out 7))
        go_roundg k1
        case measure => have := HK1.out; omega
        case rel => exact ⟨(wrap64 (x5_1 + (wrap64 ((((rd_T59 y133 x18_1).f0).length : Int) + (((rd_T59 y133 x18_1).f1).length : Int))))), (wrap64 (x18_1 + 1)), (by first | rfl | (simp; done) | (simp [*]; done) | (simp [*, wrap64]; done) | (simp [*]; unfold wrap64; omega)), (by first | rfl | (simp; done) | (simp [*]; done) | (simp [*, wrap64]; done) | (simp [*]; unfold wrap64; omega)), H', ⟨by have := HK1.out; omega⟩, ⟨by (with_reducible repeat (first | refine blk_drewN ?_ _ | refine blk_drew ?_ | refine blk_alloc ?_ _)); refine blk_far ?_ NB132_138.out _; (with_reducible repeat (first | refine blk_drewN ?_ _ | refine blk_drew ?_ | refine blk_alloc ?_ _)); refine blk_far ?_ NB132_138.out _; (with_reducible repeat (first | refine blk_drewN ?_ _ | refine blk_drew ?_ | refine blk_alloc ?_ _)); refine blk_far ?_ NB132_138.out _; (with_reducible repeat (first | refine blk_drewN ?_ _ | refine blk_drew ?_ | refine blk_alloc ?_ _)); refine blk_far ?_ NB132_138.out _; (with_reducible repeat (first | refine blk_drewN ?_ _ | refine blk_drew ?_ | refine blk_alloc ?_ _)); refine blk_far ?_ NB132_138.out _; (with_reducible repeat (first | refine blk_drewN ?_ _ | refine blk_drew ?_ | refine blk_alloc ?_ _)); refine blk_far ?_ NB132_138.out _; (with_reducible repeat (first | refine blk_drewN ?_ _ | refine blk_drew ?_ | refine blk_alloc ?_ _)); refine blk_far ?_ NB132_138.out _; (with_reducible repeat (first | refine blk_drewN ?_ _ | refine blk_drew ?_ | refine blk_alloc ?_ _)); refine blk_far ?_ NB132_138.out _; (with_reducible repeat (first | refine blk_drewN ?_ _ | refine blk_drew ?_ | refine blk_alloc ?_ _)); exact BK132.out⟩, ⟨by repeat (first | (with_reducible first | exact HB.out | apply below_alloc | apply pw_below_drewN | apply below_drew1 | refine below_set ?_ GE132.out | refine below_set ?_ GE138.out) | exact HB.out)⟩⟩
       ·rw [if_neg c12] at H
        exact absurd H (by simp)
      ·rw [if_neg c11] at H
       exact absurd H (by simp)
     ·rw [if_neg c10] at H
      have c10b0 : decide (x18_1 < (y133.length : Int)) = false := decide_eq_false c10
      clear c10
      obtain rfl := Option.some.inj H
      go_wp2
      go_ret
      exact ⟨by first | rfl | (simp [errW_none, errW_some] <;> rfl) | (simp only [← hji3, ← hji4]; first | rfl | (simp [errW_none, errW_some] <;> rfl)) | (simp [*, errW_none, errW_some] <;> rfl), by repeat (first | (with_reducible first | exact HB.out | apply below_alloc | apply pw_below_drewN | apply below_drew1 | refine below_set ?_ GE132.out) | exact HB.out)⟩
  ·rw [if_neg c6] at H
   exact absurd H (by simp)
 ·rw [if_neg c5] at H
  exact absurd H (by simp)

/-! ### code_First: function 54 -/
def code_First.f (k : Nat) (a0_0 : Int) (l0_1 : List (S59)) (a1 : Int) : Option (Int) := (code_first.f k a0_0 l0_1 a1).bind fun t140 => (some t140)
theorem code_First.mono : ∀ a0 a1 a2 k, LeO (code_First.f k a0 a1 a2) (code_First.f (k + 1) a0 a1 a2) := by
 intro a0 a1 a2 k
 unfold code_First.f
 repeat' first
   | (with_reducible exact code_first.mono _ _ _ _)
   | (with_reducible exact LeO.refl _)
   | (with_reducible exact LeO.none _)
   | (with_reducible refine LeO.ite ?_ ?_)
   | (with_reducible refine LeO.bind ?_ (fun _ => ?_))
   | exact code_first.mono _ _ _ _
   | exact LeO.none _
   | refine LeO.ite ?_ ?_
   | refine LeO.bind ?_ (fun _ => ?_)
set_option maxHeartbeats 8000000 in
set_option maxRecDepth 100000 in
theorem code_First.calls (k : Nat) (a0_0 : Int) (A0_1 : Option Addr) (c0_1 : Nat) (l0_1 : List (S59)) (a1 : Int) (r : Int) (w : World) (hr0_1 : Kd.C k59 w A0_1 l0_1.length l0_1) (hc0_1 : l0_1.length ≤ c0_1) (h : code_First.f k a0_0 l0_1 a1 = some r) :
  Calls Tryd.prog 54 #[.agg #[.int .i64 a0_0, .slice A0_1 l0_1.length c0_1], .int .i64 a1] w fun e w' => e = .returned (.int .i64 r) ∧ Below w.heap.size w w' := by
 have hu44 := Tryd.underlying44
 have HR0_1 := zm hr0_1
 have HC0_1 := zm hc0_1
 clear hr0_1 hc0_1
 have HB := zm (Below.refl w.heap.size w)
 have H : ((code_first.f k a0_0 l0_1 a1).bind fun t140 => (some t140)) = some r := h
 clear h
 replace H := Option.bind_eq_some_iff.mp H
 obtain ⟨t140, A30, H⟩ := H
 replace H : (some t140) = some r := H
 have A3 := zm A30
 clear A30
 obtain rfl := Option.some.inj H
 go_enter Tryd.func54, Tryd.ntmps54
 go_wp2_with (first | ((with_reducible refine gate_dst (N := 2) rfl ?_); refine box_event ?hg (N := 2) ?hd (cs := #[.int .i64 a0_0, .slice A0_1 l0_1.length c0_1]) (t := 44) ?hr ?_; (case hd => rfl); (case hg => rfl); (case hr => first | (go_simp; done) | (go_simp; rfl)); intro gb139 hg w4 hbox hb; have n0_ := zm (below_step (by repeat (first | (with_reducible first | exact HB.out | apply below_alloc | apply pw_below_drewN | apply below_drew1) | exact HB.out)) hb); have n1_ := zm (hbox); have n2_ := zm ((by rw [hg]; exact (below_size (by repeat (first | (with_reducible first | exact HB.out | apply below_alloc | apply pw_below_drewN | apply below_drew1) | exact HB.out))) : w.heap.size ≤ gb139)); have n3_ := zm ((by rw [hg]; exact (below_size (by repeat (first | (with_reducible first | exact HB.out | apply below_alloc | apply pw_below_drewN | apply below_drew1) | exact HB.out))) : w.heap.size ≤ gb139)); clear HB; have HB := n0_; have BK139 := n1_; have GW139 := n2_; have GE139 := n3_; clear n0_ n1_ n2_ n3_; clear hb hbox hg; have hcz5_0 : w4.cell? ⟨gb139, 0, none⟩ = some (.int .i64 a0_0) := (blk_cell BK139.out 0).trans rfl; have hcz5_1 : w4.cell? ⟨gb139, 1, none⟩ = some (.slice A0_1 l0_1.length c0_1) := (blk_cell BK139.out 1).trans rfl; have hfz5_0 := blk_frozen BK139.out 0; have hfz5_1 := blk_frozen BK139.out 1) | ((with_reducible refine gate_callee (f := 68) rfl ?_); refine goesL_ (some 7) rfl rfl Tryd.func68 (by kernel_rfl) rfl #[.agg #[.int .i64 a0_0, .slice A0_1 l0_1.length c0_1], .int .i64 a1] rfl (by (try simp only [List.map_toArray, List.map_cons, List.map_nil]); first | done | rfl | (simp only [List.length_drop, List.length_take]; rfl)) ?_; (with_reducible refine (code_first.calls k a0_0 _ _ l0_1 a1 t140 _ ?side1 ?side2 A3.out).mono ?_); (case side1 => repeat (first | exact (Kd.C_below HR0_1.out HB.out) | (with_reducible refine Kd.C_alloc ?_ _) | (with_reducible refine Kd.C_drewN ?_ _) | (with_reducible refine Kd.C_drew ?_))); (case side2 => exact HC0_1.out); rintro e w6 ⟨rfl, hb⟩; refine ⟨_, rfl, ?_⟩; have n0_ := zm (blk_below (g := gb139) (o := .cells #[.int .i64 a0_0, .slice A0_1 l0_1.length c0_1] 44 (0, 0)) (by (with_reducible repeat (first | refine blk_drewN ?_ _ | refine blk_drew ?_ | refine blk_alloc ?_ _)); exact BK139.out) hb); have n1_ := zm (below_step (by repeat (first | (with_reducible first | exact HB.out | apply below_alloc | apply pw_below_drewN | apply below_drew1 | refine below_set ?_ GE139.out) | exact HB.out)) hb); clear BK139; clear HB; have BK139 := n0_; have HB := n1_; clear n0_ n1_; (try clear hb); (try clear hb2); (try clear hk); (try clear hi)))
 go_ret
 exact ⟨by first | rfl | (simp [errW_none, errW_some] <;> rfl) | (simp [*, errW_none, errW_some] <;> rfl), by repeat (first | (with_reducible first | exact HB.out | apply below_alloc | apply pw_below_drewN | apply below_drew1 | refine below_set ?_ GE139.out) | exact HB.out)⟩

/-! ### show_end: function 55 -/
/-! A type's name, by function value: what many and brackets ask of it. -/
def tF (t : Int) : ByteArray := if t ≥ 6 then (⟨#[42]⟩ : ByteArray) ++ shD (t - 6) else if t < -1 then ⟨#[63]⟩ else Door.show_types_tab.getD (t + 1).toNat ByteArray.empty
theorem types_size : ∀ x ∈ Door.show_types_tab, x.size ≤ 20 := by decide +kernel
theorem tF_size (t : Int) (h : inI64 t) : (tF t).size ≤ 60 := by
  unfold tF
  split
  · have := shD_size (t - 6) ⟨by omega, by have := h.2; omega⟩
    rw [ByteArray.size_append]
    have e : (⟨#[42]⟩ : ByteArray).size = 1 := rfl
    omega
  · split
    · decide
    · rw [List.getD_eq_getElem?_getD]
      rcases Nat.lt_or_ge (t + 1).toNat Door.show_types_tab.length with h1 | h1
      · rw [List.getElem?_eq_getElem h1, Option.getD_some]
        have := types_size _ (List.getElem_mem h1)
        omega
      · rw [List.getElem?_eq_none h1]
        decide
theorem typed_f (t : Int) (h : inI64 t) : show_typed.f t = some (tF t) := by
  unfold show_typed.f tF
  by_cases h6 : t ≥ 6
  · have hw : wrap64 (t - 6) = t - 6 := by have := h.2; unfold wrap64; omega
    have hi : inI64 (t - 6) := ⟨by omega, by have := h.2; omega⟩
    have hs := shD_size (t - 6) hi
    rw [if_pos h6, if_pos h6, hw]
    unfold show_digits.f
    rw [digits_f _ hi, Option.bind_some, Option.bind_some, if_pos (by omega)]
  · rw [if_neg h6, if_neg h6]
    split <;> rfl
theorem typed_call (t : Int) (X : World) (h : inI64 t) (hG : Door.Laid X) : Calls Tryd.prog 26 #[.int .i64 t] X fun e w' => e = .returned (.string (tF t)) ∧ Below X.heap.size X w' := show_typed.calls t _ X (typed_f t h) hG
theorem sdigits_call (n : Int) (X : World) (h : inI64 n) (hG : Door.Laid X) : Calls Tryd.prog 32 #[.int .i64 n] X fun e w' => e = .returned (.string (shD n)) ∧ Below X.heap.size X w' := show_digits.calls n _ X (by unfold show_digits.f; rw [digits_f n h]; rfl) hG
theorem shD_size60 (n : Int) (h : inI64 n) : (shD n).size ≤ 60 := by have := shD_size n h; omega
set_option maxHeartbeats 4000000 in
set_option maxRecDepth 100000 in
theorem many_typed (F : Int → ByteArray) (hF : ∀ n, inI64 n → (F n).size ≤ 60) (hcall : ∀ (n : Int) (X : World), inI64 n → Door.Laid X → Calls Tryd.prog 26 #[.int .i64 n] X fun e w' => e = .returned (.string (F n)) ∧ Below X.heap.size X w')
    (A : Option Addr) (c : Nat) (l : List Int) (w : World) (hr : Kd.C (Kd.int .i64) w A l.length l) (hc : l.length ≤ c) (hl : l.length ≤ 68719476736) (hi : ∀ x ∈ l, inI64 x) (hG : Door.Laid w) :
    Calls Tryd.prog 31 #[.slice A l.length c, .func (.func 26) #[] #[]] w fun e w' => e = .returned (.string ⟨(jn [44] (l.map F)).toArray⟩) ∧ Below w.heap.size w w' := by
  have HR := zm hr
  have HG := zm hG
  have HI := zm hi
  have HF := zm hF
  have HCALL := zm hcall
  clear hr hG hi hF hcall
  go_enter Tryd.func31, Tryd.ntmps31
  go_wp2
  go_loopw [5, 10] (fun v5 v10 wr => ∃ k : Nat, v10 = .int .i64 k ∧ k ≤ l.length ∧ Aside0 (Kd.R Kd.string 9 wr w.heap.size (fun _ => True) v5 ((l.take k).map F) ∧ Below w.heap.size w wr)) (fun _ v10 _ => l.length - (intOf v10).toNat)
  case atStart => exact ⟨0, rfl, Nat.zero_le _, ⟨Kd.R_nil _ _ _ _ _, Below.refl _ _⟩⟩
  case round =>
    obtain ⟨k, rfl, hk, HS⟩ := hrel
    by_cases hlt : k < l.length
    · obtain ⟨n, hn⟩ : ∃ n, l[k] = n := ⟨_, rfl⟩
      have hin : inI64 n := by rw [← hn]; exact HI.out _ (List.getElem_mem _)
      have hk0 : 0 ≤ (k : Int) := by omega
      have hk1 : (k : Int) < (l.length : Int) := by omega
      obtain ⟨ad, e, hx⟩ := Kd.at_int (Kd.C_below HR.out HS.out.2) k hk0 hk1
      subst e
      have hx' : wr.cell? (ad.add k) = some (.int .i64 n) := by
        rw [Int.toNat_natCast] at hx
        rw [hx]
        have : rd l (k : Int) = n := by
          unfold rd
          rw [Int.toNat_natCast, List.getD_eq_getElem?_getD, List.getElem?_eq_getElem hlt, Option.getD_some, hn]
        rw [this]
      have htk : (l.take (k + 1)).map F = (l.take k).map F ++ [F n] := by
        rw [List.take_succ_eq_append_getElem hlt, List.map_append, hn]; rfl
      have HTK := zm htk
      have HIN := zm hin
      have hlen : ((l.take k).map F).length ≤ 68719476736 := by rw [List.length_map, List.length_take]; omega
      have HLN := zm hlen
      clear hx htk hin hn hlen
      go_wp2_with (first
        | (go_at_call 26; (with_reducible refine (HCALL.out n _ HIN.out (HG.out.on HS.out.2)).mono ?_); rintro e W2 ⟨rfl, hb2⟩; have HB2 := zm (below_step HS.out.2 hb2); have HR2 := zm (Kd.R_lower (Kd.R_step (ok := fun _ => True) HS.out.1 (fun k _ hk => hb2.block k hk)) (Nat.le_refl _)); clear hb2)
        | ((with_reducible refine gate_builtin (b := .append) (xs := #[.tmp 14, .tmp 18]) rfl ?_); at_builtin; refine Kd.R_append Kd.string (w0 := w) w.heap.size rfl (.tmp 14) (.tmp 18) 78 9 (.string ByteArray.empty) 16 rfl Tryd.underlying78 (by kernel_rfl) rfl (by decide) (by omega) _ ((l.take k).map F) (F n) [.string (F n)] (fun _ => True) (fun _ => False) rfl rfl ?aP (fun _ hk => hk.elim) ?aF ?aO ?aB ?aS ?aL ?_; (case aP => exact rfl); (case aB => exact HB2.out); (case aF => exact (fun _ _ => trivial)); (case aO => exact HR2.out); (case aS => exact below_size HB2.out); (case aL => have := HLN.out; omega); intro v1 w1 ho hb hg hat; rw [← HTK.out] at ho; have HS2 := zm (And.intro ho hb); clear ho hb hg hat))
      exact ⟨⟨k + 1, by go_num, by omega, HS2⟩, by simp [intOf]; omega⟩
    · have hke : k = l.length := by omega
      have hfull : l.take k = l := List.take_of_length_le (by omega)
      have hR := HS.out.1
      rw [hfull] at hR
      have hge : ¬ ((k : Int) < (l.length : Int)) := by omega
      have hlen : lensB (l.map F) + (l.map F).length ≤ 70368744177664 := by
        have := lensB_map F 60 HF.out l HI.out
        rw [List.length_map]; omega
      obtain ⟨L, hL⟩ : ∃ L, l.map F = L := ⟨_, rfl⟩
      rw [hL] at hR hlen
      have HL := zm hL
      have HLEN := zm hlen
      have hR0 := hR
      obtain ⟨h0, inner, ho, hrr⟩ := hR0
      obtain ⟨hll, hor⟩ := ho
      clear hL hlen hfull hke hrr hll h0
      rcases hor with ⟨rfl, hn0⟩ | ⟨g, cap, cur, rfl, hbg, hcur, hle, hmx, hsz, htk⟩
      · have hLn : L = [] := List.length_eq_zero_iff.1 hn0
        have HLn := zm hLn
        clear hR hLn hn0
        go_wp2_with (first
          | (go_at_call 53; (with_reducible refine (join_none _).mono ?_); rintro e W3 ⟨rfl, hb3⟩; have HB3 := zm (below_step HS.out.2 hb3); clear hb3))
        go_ret
        exact ⟨by rw [HL.out, HLn.out]; rfl, HB3.out⟩
      · have hcell : ∀ j x, L[j]? = some x → wr.cell? ⟨g, j, none⟩ = some (.string x) := by
          intro j x hx
          have hj : j < L.length := by rcases Nat.lt_or_ge j L.length with h' | h'; exact h'; simp [List.getElem?_eq_none h'] at hx
          have h1 := (Kd.R_cell ByteArray.empty hR (j : Int) (by omega) (by omega)).1
          rw [Int.toNat_natCast] at h1
          rw [h1]
          unfold rdOf
          rw [Int.toNat_natCast, List.getD_eq_getElem?_getD, hx, Option.getD_some]
        have hgl : g < wr.heap.size := by
          rcases Nat.lt_or_ge g wr.heap.size with h' | h'
          · exact h'
          · simp [Array.getElem?_eq_none h'] at hcur
        have HCELL := zm hcell
        have HGL := zm hgl
        have HLE := zm hle
        clear hR hcell hgl hle hcur hbg hmx hsz htk
        go_wp2_with (first
          | (go_at_call 53; (with_reducible refine (join_some g cap L _ HCELL.out HGL.out HLE.out HLEN.out).mono ?_); rintro e W3 ⟨rfl, hb3⟩; have HB3 := zm (below_step HS.out.2 hb3); clear hb3))
        go_ret
        exact ⟨by first | (rw [HL.out]; done) | (rw [HL.out]; rfl), HB3.out⟩
set_option maxHeartbeats 4000000 in
set_option maxRecDepth 100000 in
theorem brackets_typed (F : Int → ByteArray) (hF : ∀ n, inI64 n → (F n).size ≤ 60) (hcall : ∀ (n : Int) (X : World), inI64 n → Door.Laid X → Calls Tryd.prog 26 #[.int .i64 n] X fun e w' => e = .returned (.string (F n)) ∧ Below X.heap.size X w')
    (A : Option Addr) (c : Nat) (l : List Int) (w : World) (hr : Kd.C (Kd.int .i64) w A l.length l) (hc : l.length ≤ c) (hl : l.length ≤ 68719476736) (hi : ∀ x ∈ l, inI64 x) (hG : Door.Laid w) :
    Calls Tryd.prog 30 #[.slice A l.length c, .func (.func 26) #[] #[]] w fun e w' => e = .returned (.string (brS F l)) ∧ Below w.heap.size w w' := by
  have HM := zm (many_typed F hF hcall A c l w hr hc hl hi hG)
  have hs : (⟨(jn [44] (l.map F)).toArray⟩ : ByteArray).size ≤ 70368744177664 := by
    rw [size_of_list2]
    have h1 := jn_len (l.map F)
    have h2 := lensB_map F 60 hF l hi
    rw [List.length_map] at h1
    omega
  unfold brS
  obtain ⟨x, hx⟩ : ∃ x, (⟨(jn [44] (l.map F)).toArray⟩ : ByteArray) = x := ⟨_, rfl⟩
  rw [hx] at hs HM ⊢
  have g1 : 1 + x.size ≤ 9223372036854775807 := by omega
  have g2 : 1 + x.size + 1 ≤ 9223372036854775807 := by omega
  have g1a := eq_true g1
  have g1b := decide_eq_true g1
  have g1c : (9223372036854775807 < 1 + x.size) = False := eq_false (Nat.not_lt.2 g1)
  have g2a := eq_true g2
  have g2b := decide_eq_true g2
  have g2c : (9223372036854775807 < 1 + x.size + 1) = False := eq_false (Nat.not_lt.2 g2)
  clear hx hr hc hl hi hG hF hcall
  go_enter Tryd.func30, Tryd.ntmps30
  go_wp2_with (first | (go_at_call 31; (with_reducible refine HM.out.mono ?_); rintro e W3 ⟨rfl, hb3⟩; have HB3 := zm hb3; clear hb3))
  go_ret
  exact ⟨rfl, HB3.out⟩
set_option maxHeartbeats 4000000 in
set_option maxRecDepth 100000 in
theorem many_digits (F : Int → ByteArray) (hF : ∀ n, inI64 n → (F n).size ≤ 60) (hcall : ∀ (n : Int) (X : World), inI64 n → Door.Laid X → Calls Tryd.prog 32 #[.int .i64 n] X fun e w' => e = .returned (.string (F n)) ∧ Below X.heap.size X w')
    (A : Option Addr) (c : Nat) (l : List Int) (w : World) (hr : Kd.C (Kd.int .i64) w A l.length l) (hc : l.length ≤ c) (hl : l.length ≤ 68719476736) (hi : ∀ x ∈ l, inI64 x) (hG : Door.Laid w) :
    Calls Tryd.prog 31 #[.slice A l.length c, .func (.func 32) #[] #[]] w fun e w' => e = .returned (.string ⟨(jn [44] (l.map F)).toArray⟩) ∧ Below w.heap.size w w' := by
  have HR := zm hr
  have HG := zm hG
  have HI := zm hi
  have HF := zm hF
  have HCALL := zm hcall
  clear hr hG hi hF hcall
  go_enter Tryd.func31, Tryd.ntmps31
  go_wp2
  go_loopw [5, 10] (fun v5 v10 wr => ∃ k : Nat, v10 = .int .i64 k ∧ k ≤ l.length ∧ Aside0 (Kd.R Kd.string 9 wr w.heap.size (fun _ => True) v5 ((l.take k).map F) ∧ Below w.heap.size w wr)) (fun _ v10 _ => l.length - (intOf v10).toNat)
  case atStart => exact ⟨0, rfl, Nat.zero_le _, ⟨Kd.R_nil _ _ _ _ _, Below.refl _ _⟩⟩
  case round =>
    obtain ⟨k, rfl, hk, HS⟩ := hrel
    by_cases hlt : k < l.length
    · obtain ⟨n, hn⟩ : ∃ n, l[k] = n := ⟨_, rfl⟩
      have hin : inI64 n := by rw [← hn]; exact HI.out _ (List.getElem_mem _)
      have hk0 : 0 ≤ (k : Int) := by omega
      have hk1 : (k : Int) < (l.length : Int) := by omega
      obtain ⟨ad, e, hx⟩ := Kd.at_int (Kd.C_below HR.out HS.out.2) k hk0 hk1
      subst e
      have hx' : wr.cell? (ad.add k) = some (.int .i64 n) := by
        rw [Int.toNat_natCast] at hx
        rw [hx]
        have : rd l (k : Int) = n := by
          unfold rd
          rw [Int.toNat_natCast, List.getD_eq_getElem?_getD, List.getElem?_eq_getElem hlt, Option.getD_some, hn]
        rw [this]
      have htk : (l.take (k + 1)).map F = (l.take k).map F ++ [F n] := by
        rw [List.take_succ_eq_append_getElem hlt, List.map_append, hn]; rfl
      have HTK := zm htk
      have HIN := zm hin
      have hlen : ((l.take k).map F).length ≤ 68719476736 := by rw [List.length_map, List.length_take]; omega
      have HLN := zm hlen
      clear hx htk hin hn hlen
      go_wp2_with (first
        | (go_at_call 32; (with_reducible refine (HCALL.out n _ HIN.out (HG.out.on HS.out.2)).mono ?_); rintro e W2 ⟨rfl, hb2⟩; have HB2 := zm (below_step HS.out.2 hb2); have HR2 := zm (Kd.R_lower (Kd.R_step (ok := fun _ => True) HS.out.1 (fun k _ hk => hb2.block k hk)) (Nat.le_refl _)); clear hb2)
        | ((with_reducible refine gate_builtin (b := .append) (xs := #[.tmp 14, .tmp 18]) rfl ?_); at_builtin; refine Kd.R_append Kd.string (w0 := w) w.heap.size rfl (.tmp 14) (.tmp 18) 78 9 (.string ByteArray.empty) 16 rfl Tryd.underlying78 (by kernel_rfl) rfl (by decide) (by omega) _ ((l.take k).map F) (F n) [.string (F n)] (fun _ => True) (fun _ => False) rfl rfl ?aP (fun _ hk => hk.elim) ?aF ?aO ?aB ?aS ?aL ?_; (case aP => exact rfl); (case aB => exact HB2.out); (case aF => exact (fun _ _ => trivial)); (case aO => exact HR2.out); (case aS => exact below_size HB2.out); (case aL => have := HLN.out; omega); intro v1 w1 ho hb hg hat; rw [← HTK.out] at ho; have HS2 := zm (And.intro ho hb); clear ho hb hg hat))
      exact ⟨⟨k + 1, by go_num, by omega, HS2⟩, by simp [intOf]; omega⟩
    · have hke : k = l.length := by omega
      have hfull : l.take k = l := List.take_of_length_le (by omega)
      have hR := HS.out.1
      rw [hfull] at hR
      have hge : ¬ ((k : Int) < (l.length : Int)) := by omega
      have hlen : lensB (l.map F) + (l.map F).length ≤ 70368744177664 := by
        have := lensB_map F 60 HF.out l HI.out
        rw [List.length_map]; omega
      obtain ⟨L, hL⟩ : ∃ L, l.map F = L := ⟨_, rfl⟩
      rw [hL] at hR hlen
      have HL := zm hL
      have HLEN := zm hlen
      have hR0 := hR
      obtain ⟨h0, inner, ho, hrr⟩ := hR0
      obtain ⟨hll, hor⟩ := ho
      clear hL hlen hfull hke hrr hll h0
      rcases hor with ⟨rfl, hn0⟩ | ⟨g, cap, cur, rfl, hbg, hcur, hle, hmx, hsz, htk⟩
      · have hLn : L = [] := List.length_eq_zero_iff.1 hn0
        have HLn := zm hLn
        clear hR hLn hn0
        go_wp2_with (first
          | (go_at_call 53; (with_reducible refine (join_none _).mono ?_); rintro e W3 ⟨rfl, hb3⟩; have HB3 := zm (below_step HS.out.2 hb3); clear hb3))
        go_ret
        exact ⟨by rw [HL.out, HLn.out]; rfl, HB3.out⟩
      · have hcell : ∀ j x, L[j]? = some x → wr.cell? ⟨g, j, none⟩ = some (.string x) := by
          intro j x hx
          have hj : j < L.length := by rcases Nat.lt_or_ge j L.length with h' | h'; exact h'; simp [List.getElem?_eq_none h'] at hx
          have h1 := (Kd.R_cell ByteArray.empty hR (j : Int) (by omega) (by omega)).1
          rw [Int.toNat_natCast] at h1
          rw [h1]
          unfold rdOf
          rw [Int.toNat_natCast, List.getD_eq_getElem?_getD, hx, Option.getD_some]
        have hgl : g < wr.heap.size := by
          rcases Nat.lt_or_ge g wr.heap.size with h' | h'
          · exact h'
          · simp [Array.getElem?_eq_none h'] at hcur
        have HCELL := zm hcell
        have HGL := zm hgl
        have HLE := zm hle
        clear hR hcell hgl hle hcur hbg hmx hsz htk
        go_wp2_with (first
          | (go_at_call 53; (with_reducible refine (join_some g cap L _ HCELL.out HGL.out HLE.out HLEN.out).mono ?_); rintro e W3 ⟨rfl, hb3⟩; have HB3 := zm (below_step HS.out.2 hb3); clear hb3))
        go_ret
        exact ⟨by first | (rw [HL.out]; done) | (rw [HL.out]; rfl), HB3.out⟩

theorem brt_call (A : Option Addr) (c : Nat) (l : List Int) (X : World) (hr : Kd.C (Kd.int .i64) X A l.length l) (hc : l.length ≤ c) (hl : l.length ≤ 68719476736) (hi : ∀ x ∈ l, inI64 x) (hG : Door.Laid X) : Calls Tryd.prog 30 #[.slice A l.length c, .func (.func 26) #[] #[]] X fun e w' => e = .returned (.string (brS tF l)) ∧ Below X.heap.size X w' :=
  brackets_typed tF tF_size (fun n X h hG => typed_call n X h hG) A c l X hr hc hl hi hG
theorem manyd_call (A : Option Addr) (c : Nat) (l : List Int) (X : World) (hr : Kd.C (Kd.int .i64) X A l.length l) (hc : l.length ≤ c) (hl : l.length ≤ 68719476736) (hi : ∀ x ∈ l, inI64 x) (hG : Door.Laid X) : Calls Tryd.prog 31 #[.slice A l.length c, .func (.func 32) #[] #[]] X fun e w' => e = .returned (.string ⟨(jn [44] (l.map shD)).toArray⟩) ∧ Below X.heap.size X w' :=
  many_digits shD shD_size60 (fun n X h hG => sdigits_call n X h hG) A c l X hr hc hl hi hG

def jumpS : ByteArray := ⟨#[106, 117, 109, 112, 32]⟩
def branchS : ByteArray := ⟨#[98, 114, 97, 110, 99, 104, 32]⟩
def retS : ByteArray := ⟨#[114, 101, 116, 32]⟩
def stopS : ByteArray := ⟨#[115, 116, 111, 112, 32]⟩
def endS (K a tt els : Int) (l m : List Int) : ByteArray :=
  if K = 0 then (jumpS ++ shD tt) ++ brS vF l
  else if K = 1 then (((((((branchS ++ vF a) ++ sp) ++ shD tt) ++ brS vF l) ++ sp) ++ shD els) ++ brS vF m)
  else if K = 2 then retS ++ vF a else if K = 3 then stopS ++ vF a else ⟨#[63]⟩
def show_end.f (a0_0 a0_1 a0_2 a0_3 : Int) (l0_4 l0_5 : List Int) : Option ByteArray :=
  if (l0_4.length ≤ 68719476736 ∧ ∀ x ∈ l0_4, inI64 x) ∧ (l0_5.length ≤ 68719476736 ∧ ∀ x ∈ l0_5, inI64 x) ∧ inI64 a0_1 ∧ inI64 a0_2 ∧ inI64 a0_3 then some (endS a0_0 a0_1 a0_2 a0_3 l0_4 l0_5) else none
set_option maxHeartbeats 8000000 in
set_option maxRecDepth 100000 in
theorem show_end.calls (a0_0 : Int) (a0_1 : Int) (a0_2 : Int) (a0_3 : Int) (A0_4 : Option Addr) (c0_4 : Nat) (l0_4 : List Int) (A0_5 : Option Addr) (c0_5 : Nat) (l0_5 : List Int) (r : ByteArray) (w : World) (hr0_4 : Kd.C (Kd.int .i64) w A0_4 l0_4.length l0_4) (hc0_4 : l0_4.length ≤ c0_4) (hr0_5 : Kd.C (Kd.int .i64) w A0_5 l0_5.length l0_5) (hc0_5 : l0_5.length ≤ c0_5) (h : show_end.f a0_0 a0_1 a0_2 a0_3 l0_4 l0_5 = some r) (hG : Door.Laid w) :
    Calls Tryd.prog 55 #[.agg #[.int .i64 a0_0, .int .i64 a0_1, .int .i64 a0_2, .int .i64 a0_3, .slice A0_4 l0_4.length c0_4, .slice A0_5 l0_5.length c0_5]] w fun e w' => e = .returned (.string r) ∧ Below w.heap.size w w' := by
  unfold show_end.f at h
  split at h
  rotate_left
  · cases h
  rename_i hok
  obtain ⟨⟨hl4, hi4⟩, ⟨hl5, hi5⟩, ha, ht, he⟩ := hok
  obtain rfl := Option.some.inj h
  have HL4 := zm hl4
  have HI4 := zm hi4
  have HL5 := zm hl5
  have HI5 := zm hi5
  have HA := zm ha
  have HT := zm ht
  have HE := zm he
  have HR4 := zm hr0_4
  have HC4 := zm hc0_4
  have HR5 := zm hr0_5
  have HC5 := zm hc0_5
  have HG := zm hG
  have sa := shD_size a0_1 ha
  have st_ := shD_size a0_2 ht
  have se := shD_size a0_3 he
  have sl := brS_size l0_4 hl4 hi4
  have sm := brS_size l0_5 hl5 hi5
  obtain ⟨xa, hxa⟩ : ∃ x, vF a0_1 = x := ⟨_, rfl⟩
  obtain ⟨xt, hxt⟩ : ∃ x, shD a0_2 = x := ⟨_, rfl⟩
  obtain ⟨xe, hxe⟩ : ∃ x, shD a0_3 = x := ⟨_, rfl⟩
  obtain ⟨xl, hxl⟩ : ∃ x, brS vF l0_4 = x := ⟨_, rfl⟩
  obtain ⟨xm, hxm⟩ : ∃ x, brS vF l0_5 = x := ⟨_, rfl⟩
  have hva := vF_size a0_1 ha
  have hes : ∀ K, endS K a0_1 a0_2 a0_3 l0_4 l0_5 = if K = 0 then (jumpS ++ xt) ++ xl else if K = 1 then (((((((branchS ++ xa) ++ sp) ++ xt) ++ xl) ++ sp) ++ xe) ++ xm) else if K = 2 then retS ++ xa else if K = 3 then stopS ++ xa else ⟨#[63]⟩ := fun K => by
    unfold endS; rw [hxa, hxt, hxe, hxl, hxm]
  rw [hes]
  rw [hxt] at st_
  rw [hxe] at se
  rw [hxl] at sl
  rw [hxm] at sm
  rw [hxa] at hva
  have VA := fun (X : World) (hX : Door.Laid X) => by have := value_call a0_1 ha X hX; rw [show vS ++ shD a0_1 = vF a0_1 from rfl, hxa] at this; exact this
  have DT := fun (X : World) (hX : Door.Laid X) => by have := sdigits_call a0_2 X ht hX; rw [hxt] at this; exact this
  have DE := fun (X : World) (hX : Door.Laid X) => by have := sdigits_call a0_3 X he hX; rw [hxe] at this; exact this
  have BL := fun (X : World) (hB : Below w.heap.size w X) => by have := br_call A0_4 c0_4 l0_4 X (Kd.C_below HR4.out hB) hc0_4 hl4 hi4 (HG.out.on hB); rw [hxl] at this; exact this
  have BM := fun (X : World) (hB : Below w.heap.size w X) => by have := br_call A0_5 c0_5 l0_5 X (Kd.C_below HR5.out hB) hc0_5 hl5 hi5 (HG.out.on hB); rw [hxm] at this; exact this
  have HVA := zm VA
  have HDT := zm DT
  have HDE := zm DE
  have HBL := zm BL
  have HBM := zm BM
  clear VA DT DE BL BM hes hxa hxt hxe hxl hxm sa ha ht he hl4 hi4 hl5 hi5 hr0_4 hr0_5 hc0_4 hc0_5 hG h
  obtain ⟨W1, hW1⟩ : ∃ W1, w.alloc (.cells #[.int .i64 a0_0, .int .i64 a0_1, .int .i64 a0_2, .int .i64 a0_3, .slice A0_4 l0_4.length c0_4, .slice A0_5 l0_5.length c0_5] 57) = W1 := ⟨_, rfl⟩
  have hb1 : Below w.heap.size w W1 := by rw [← hW1]; exact below_alloc (Below.refl _ _) _
  have hB1 : W1.heap[w.heap.size]? = some (.cells #[.int .i64 a0_0, .int .i64 a0_1, .int .i64 a0_2, .int .i64 a0_3, .slice A0_4 l0_4.length c0_4, .slice A0_5 l0_5.length c0_5] 57 (0, 0)) := by rw [← hW1]; exact heap_alloc_new w _
  have HB1 := zm hb1
  have HK1 := zm hB1
  have o0 : W1.cell? ⟨w.heap.size, 0, none⟩ = some (.int .i64 a0_0) := (blk_cell hB1 0).trans rfl
  have o1 : W1.cell? ⟨w.heap.size, 1, none⟩ = some (.int .i64 a0_1) := (blk_cell hB1 1).trans rfl
  have o2 : W1.cell? ⟨w.heap.size, 2, none⟩ = some (.int .i64 a0_2) := (blk_cell hB1 2).trans rfl
  have o3 : W1.cell? ⟨w.heap.size, 3, none⟩ = some (.int .i64 a0_3) := (blk_cell hB1 3).trans rfl
  have o4 : W1.cell? ⟨w.heap.size, 4, none⟩ = some (.slice A0_4 l0_4.length c0_4) := (blk_cell hB1 4).trans rfl
  have o5 : W1.cell? ⟨w.heap.size, 5, none⟩ = some (.slice A0_5 l0_5.length c0_5) := (blk_cell hB1 5).trans rfl
  clear hb1 hB1
  by_cases k0 : a0_0 = 0
  · subst k0
    rw [if_pos rfl]
    have g0 : 5 + xt.size ≤ 9223372036854775807 := by omega
    have g0a := eq_true g0
    have g0b := decide_eq_true g0
    have g0c : (9223372036854775807 < 5 + xt.size) = False := eq_false (Nat.not_lt.2 g0)
    have g1 : 5 + xt.size + xl.size ≤ 9223372036854775807 := by omega
    have g1a := eq_true g1
    have g1b := decide_eq_true g1
    have g1c : (9223372036854775807 < 5 + xt.size + xl.size) = False := eq_false (Nat.not_lt.2 g1)
    go_enter Tryd.func55, Tryd.ntmps55
    go_wp2
    go_region_held3 (fun w' => w'.cell? ⟨w.heap.size, 2, none⟩ = some (.int .i64 a0_2) ∧ w'.cell? ⟨w.heap.size, 4, none⟩ = some (.slice A0_4 l0_4.length c0_4))
      (first | exact ⟨o2, o4⟩ | exact ⟨p2, p4⟩ | exact ⟨q2, q4⟩ | go_keep)
      (first
        | (go_at_call 32
           refine (HDT.out _ (HG.out.on (by repeat (first | with_reducible exact HB1.out | refine below_drew ?_)))).mono ?_
           rintro e W2 ⟨rfl, hb⟩
           have HB12 := zm (below_step (w := W1) (by repeat (first | with_reducible exact Below.refl _ _ | refine below_drew ?_)) hb)
           have HB2 := zm (below_step HB1.out HB12.out)
           have HK2 := zm (blk_below HK1.out HB12.out)
           have p2 := (blk_cell HK2.out 2).trans rfl
           have p4 := (blk_cell HK2.out 4).trans rfl
           clear hb)
        | (go_at_call 30
           refine (HBL.out _ (by repeat (first | with_reducible exact HB2.out | refine below_drew ?_))).mono ?_
           rintro e W3 ⟨rfl, hb⟩
           have HB23 := zm (below_step (w := W2) (by repeat (first | with_reducible exact Below.refl _ _ | refine below_drew ?_)) hb)
           have HB3 := zm (below_step HB2.out HB23.out)
           have HK3 := zm (blk_below HK2.out HB23.out)
           have q2 := (blk_cell HK3.out 2).trans rfl
           have q4 := (blk_cell HK3.out 4).trans rfl
           clear hb))
    all_goals (go_wp2; go_ret; exact ⟨rfl, by repeat (first | with_reducible exact HB3.out | refine below_drew ?_)⟩)

  · by_cases k1 : a0_0 = 1
    · subst k1
      rw [if_neg (by decide), if_pos rfl]
      have g0 : 7 + xa.size ≤ 9223372036854775807 := by omega
      have g0a := eq_true g0
      have g0b := decide_eq_true g0
      have g0c : (9223372036854775807 < 7 + xa.size) = False := eq_false (Nat.not_lt.2 g0)
      have g1 : 7 + xa.size + 1 ≤ 9223372036854775807 := by omega
      have g1a := eq_true g1
      have g1b := decide_eq_true g1
      have g1c : (9223372036854775807 < 7 + xa.size + 1) = False := eq_false (Nat.not_lt.2 g1)
      have g2 : 7 + xa.size + 1 + xt.size ≤ 9223372036854775807 := by omega
      have g2a := eq_true g2
      have g2b := decide_eq_true g2
      have g2c : (9223372036854775807 < 7 + xa.size + 1 + xt.size) = False := eq_false (Nat.not_lt.2 g2)
      have g3 : 7 + xa.size + 1 + xt.size + xl.size ≤ 9223372036854775807 := by omega
      have g3a := eq_true g3
      have g3b := decide_eq_true g3
      have g3c : (9223372036854775807 < 7 + xa.size + 1 + xt.size + xl.size) = False := eq_false (Nat.not_lt.2 g3)
      have g4 : 7 + xa.size + 1 + xt.size + xl.size + 1 ≤ 9223372036854775807 := by omega
      have g4a := eq_true g4
      have g4b := decide_eq_true g4
      have g4c : (9223372036854775807 < 7 + xa.size + 1 + xt.size + xl.size + 1) = False := eq_false (Nat.not_lt.2 g4)
      have g5 : 7 + xa.size + 1 + xt.size + xl.size + 1 + xe.size ≤ 9223372036854775807 := by omega
      have g5a := eq_true g5
      have g5b := decide_eq_true g5
      have g5c : (9223372036854775807 < 7 + xa.size + 1 + xt.size + xl.size + 1 + xe.size) = False := eq_false (Nat.not_lt.2 g5)
      have g6 : 7 + xa.size + 1 + xt.size + xl.size + 1 + xe.size + xm.size ≤ 9223372036854775807 := by omega
      have g6a := eq_true g6
      have g6b := decide_eq_true g6
      have g6c : (9223372036854775807 < 7 + xa.size + 1 + xt.size + xl.size + 1 + xe.size + xm.size) = False := eq_false (Nat.not_lt.2 g6)
      go_enter Tryd.func55, Tryd.ntmps55
      go_wp2
      go_region_held3 (fun w' => w'.cell? ⟨w.heap.size, 1, none⟩ = some (.int .i64 a0_1) ∧ w'.cell? ⟨w.heap.size, 2, none⟩ = some (.int .i64 a0_2) ∧ w'.cell? ⟨w.heap.size, 3, none⟩ = some (.int .i64 a0_3) ∧ w'.cell? ⟨w.heap.size, 4, none⟩ = some (.slice A0_4 l0_4.length c0_4) ∧ w'.cell? ⟨w.heap.size, 5, none⟩ = some (.slice A0_5 l0_5.length c0_5))
        (first | exact ⟨o1, o2, o3, o4, o5⟩ | exact ⟨p2_1, p2_2, p2_3, p2_4, p2_5⟩ | exact ⟨p3_1, p3_2, p3_3, p3_4, p3_5⟩ | exact ⟨p4_1, p4_2, p4_3, p4_4, p4_5⟩ | exact ⟨p5_1, p5_2, p5_3, p5_4, p5_5⟩ | exact ⟨p6_1, p6_2, p6_3, p6_4, p6_5⟩ | go_keep)
        (first
        | (go_at_call 42
           refine (HVA.out _ (HG.out.on (by repeat (first | with_reducible exact HB1.out | refine below_drew ?_)))).mono ?_
           rintro e W2 ⟨rfl, hb⟩
           have HB12 := zm (below_step (w := W1) (by repeat (first | with_reducible exact Below.refl _ _ | refine below_drew ?_)) hb)
           have HB2 := zm (below_step HB1.out HB12.out)
           have HK2 := zm (blk_below HK1.out HB12.out)
           have p2_1 := (blk_cell HK2.out 1).trans rfl
           have p2_2 := (blk_cell HK2.out 2).trans rfl
           have p2_3 := (blk_cell HK2.out 3).trans rfl
           have p2_4 := (blk_cell HK2.out 4).trans rfl
           have p2_5 := (blk_cell HK2.out 5).trans rfl
           clear hb)
        | (go_at_call 32
           refine (HDT.out _ (HG.out.on (by repeat (first | with_reducible exact HB2.out | refine below_drew ?_)))).mono ?_
           rintro e W3 ⟨rfl, hb⟩
           have HB23 := zm (below_step (w := W2) (by repeat (first | with_reducible exact Below.refl _ _ | refine below_drew ?_)) hb)
           have HB3 := zm (below_step HB2.out HB23.out)
           have HK3 := zm (blk_below HK2.out HB23.out)
           have p3_1 := (blk_cell HK3.out 1).trans rfl
           have p3_2 := (blk_cell HK3.out 2).trans rfl
           have p3_3 := (blk_cell HK3.out 3).trans rfl
           have p3_4 := (blk_cell HK3.out 4).trans rfl
           have p3_5 := (blk_cell HK3.out 5).trans rfl
           clear hb)
        | (go_at_call 30
           refine (HBL.out _ (by repeat (first | with_reducible exact HB3.out | refine below_drew ?_))).mono ?_
           rintro e W4 ⟨rfl, hb⟩
           have HB34 := zm (below_step (w := W3) (by repeat (first | with_reducible exact Below.refl _ _ | refine below_drew ?_)) hb)
           have HB4 := zm (below_step HB3.out HB34.out)
           have HK4 := zm (blk_below HK3.out HB34.out)
           have p4_1 := (blk_cell HK4.out 1).trans rfl
           have p4_2 := (blk_cell HK4.out 2).trans rfl
           have p4_3 := (blk_cell HK4.out 3).trans rfl
           have p4_4 := (blk_cell HK4.out 4).trans rfl
           have p4_5 := (blk_cell HK4.out 5).trans rfl
           clear hb)
        | (go_at_call 32
           refine (HDE.out _ (HG.out.on (by repeat (first | with_reducible exact HB4.out | refine below_drew ?_)))).mono ?_
           rintro e W5 ⟨rfl, hb⟩
           have HB45 := zm (below_step (w := W4) (by repeat (first | with_reducible exact Below.refl _ _ | refine below_drew ?_)) hb)
           have HB5 := zm (below_step HB4.out HB45.out)
           have HK5 := zm (blk_below HK4.out HB45.out)
           have p5_1 := (blk_cell HK5.out 1).trans rfl
           have p5_2 := (blk_cell HK5.out 2).trans rfl
           have p5_3 := (blk_cell HK5.out 3).trans rfl
           have p5_4 := (blk_cell HK5.out 4).trans rfl
           have p5_5 := (blk_cell HK5.out 5).trans rfl
           clear hb)
        | (go_at_call 30
           refine (HBM.out _ (by repeat (first | with_reducible exact HB5.out | refine below_drew ?_))).mono ?_
           rintro e W6 ⟨rfl, hb⟩
           have HB56 := zm (below_step (w := W5) (by repeat (first | with_reducible exact Below.refl _ _ | refine below_drew ?_)) hb)
           have HB6 := zm (below_step HB5.out HB56.out)
           have HK6 := zm (blk_below HK5.out HB56.out)
           have p6_1 := (blk_cell HK6.out 1).trans rfl
           have p6_2 := (blk_cell HK6.out 2).trans rfl
           have p6_3 := (blk_cell HK6.out 3).trans rfl
           have p6_4 := (blk_cell HK6.out 4).trans rfl
           have p6_5 := (blk_cell HK6.out 5).trans rfl
           clear hb))
      all_goals (go_wp2; go_ret; exact ⟨rfl, by repeat (first | with_reducible exact HB6.out | refine below_drew ?_)⟩)
    · by_cases k2 : a0_0 = 2
      · subst k2
        rw [if_neg (by decide), if_neg (by decide), if_pos rfl]
        have g0 : 4 + xa.size ≤ 9223372036854775807 := by omega
        have g0a := eq_true g0
        have g0b := decide_eq_true g0
        have g0c : (9223372036854775807 < 4 + xa.size) = False := eq_false (Nat.not_lt.2 g0)
        go_enter Tryd.func55, Tryd.ntmps55
        go_wp2_with (first | (go_at_call 42; (with_reducible refine (HVA.out _ (HG.out.on HB1.out)).mono ?_); rintro e W2 ⟨rfl, hb⟩; have HB2 := zm (below_step HB1.out hb); clear hb))
        go_ret
        exact ⟨rfl, HB2.out⟩
      · by_cases k3 : a0_0 = 3
        · subst k3
          rw [if_neg (by decide), if_neg (by decide), if_neg (by decide), if_pos rfl]
          have g0 : 5 + xa.size ≤ 9223372036854775807 := by omega
          have g0a := eq_true g0
          have g0b := decide_eq_true g0
          have g0c : (9223372036854775807 < 5 + xa.size) = False := eq_false (Nat.not_lt.2 g0)
          go_enter Tryd.func55, Tryd.ntmps55
          go_wp2_with (first | (go_at_call 42; (with_reducible refine (HVA.out _ (HG.out.on HB1.out)).mono ?_); rintro e W2 ⟨rfl, hb⟩; have HB2 := zm (below_step HB1.out hb); clear hb))
          go_ret
          exact ⟨rfl, HB2.out⟩
        · rw [if_neg k0, if_neg k1, if_neg k2, if_neg k3]
          have e0 : (a0_0 == 0) = false := beq_eq_false_iff_ne.2 k0
          have e1 : (a0_0 == 1) = false := beq_eq_false_iff_ne.2 k1
          have e2 : (a0_0 == 2) = false := beq_eq_false_iff_ne.2 k2
          have e3 : (a0_0 == 3) = false := beq_eq_false_iff_ne.2 k3
          clear k0 k1 k2 k3
          go_enter Tryd.func55, Tryd.ntmps55
          go_wp2
          go_ret
          exact ⟨rfl, HB1.out⟩

end Go.Proofs.YtojmepkhbebllaaDoor.PShowProgs
