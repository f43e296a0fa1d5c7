-- written by wip/print2.py
import Derived.Test.YtojmepkhbebllaaDoorPShowProgsx0
import Derived.Test.YtojmepkhbebllaaDoorPShowProgsx1
namespace Go.Proofs.YtojmepkhbebllaaDoor.PShowProgs
open Go.RowKit Go.Proofs.YtojmepkhbebllaaDoorW.PrintWords Go.Proofs.YtojmepkhbebllaaDoorW.PrintLast Go.Proofs.YtojmepkhbebllaaDoorW.PrintMore
attribute [local go_sem] max2_int min2_int max_two min_two max_three min_three max_four min_four   -- for this text's walks alone
set_option linter.unusedVariables false
set_option linter.unusedSimpArgs false

/-! ### show_op: function 19 -/
set_option linter.unusedVariables false
set_option linter.unusedSimpArgs false
def shD (n : Int) : ByteArray := ⟨(Lib.itoa n).toArray⟩
theorem dd_len : ∀ (f u : Nat), u < 10 ^ (f + 1) → (Lib.decDigits u).length ≤ f + 1 := by
 intro f
 induction f with
 | zero => intro u hu; rw [Lib.decDigits, dif_pos (by omega)]; simp
 | succ f ih =>
  intro u hu
  by_cases h : u < 10
  ·rw [Lib.decDigits, dif_pos h]; simp
  ·rw [Lib.decDigits, dif_neg h, List.length_append, List.length_singleton]
   have := ih (u / 10) (by rw [Nat.div_lt_iff_lt_mul (by decide), ← Nat.pow_succ]; exact hu)
   omega
def inI64 (n : Int) : Prop := -9223372036854775808 ≤ n ∧ n ≤ 9223372036854775807
theorem shD_size (n : Int) (h : inI64 n) : (shD n).size ≤ 30 := by
 obtain ⟨h1, h2⟩ := h
 have p20 : (10 : Nat) ^ (19 + 1) = 100000000000000000000 := by decide
 show (Lib.itoa n).toArray.size ≤ 30
 rw [List.size_toArray]
 unfold Lib.itoa
 split
 ·have := dd_len 19 n.natAbs (by rw [p20]; omega)
  rw [List.length_cons]; omega
 ·have := dd_len 19 n.toNat (by rw [p20]; omega)
  omega
theorem digits_f (n : Int) (h : inI64 n) : text_Digits.f n = some (shD n) := by
 unfold text_Digits.f strconv_FormatInt.f
 rw [if_pos ⟨rfl, h.1, h.2⟩]; rfl
def vS : ByteArray := ⟨#[118]⟩
def sp : ByteArray := ⟨#[32]⟩
theorem value_f (n : Int) (h : inI64 n) : show_value.f n = some (vS ++ shD n) := by
 unfold show_value.f show_digits.f
 have := shD_size n h
 rw [digits_f n h, Option.bind_some, Option.bind_some, if_pos (by omega)]; rfl
def nameS (l : List ByteArray) (n : Int) : ByteArray := if n < 0 then ⟨#[63]⟩ else if n ≥ (l.length : Int) then ⟨#[63]⟩ else rdOf ByteArray.empty l n
theorem name_f (l : List ByteArray) (n : Int) : show_name.f l n = some (nameS l n) := by
 unfold show_name.f nameS
 by_cases h1 : n < 0
 ·rw [if_pos h1, if_pos h1]
 ·by_cases h2 : n ≥ (l.length : Int)
  ·rw [if_neg h1, if_neg h1, if_pos h2, if_pos h2]
  ·rw [if_neg h1, if_neg h1, if_neg h2, if_neg h2, if_pos (by omega), if_pos (by omega)]
theorem nameS_size (l : List ByteArray) (n : Int) (h : ∀ x ∈ l, x.size ≤ 20) : (nameS l n).size ≤ 20 := by
 unfold nameS
 split
 ·decide
 ·split
  ·decide
  ·rename_i h1 h2
   unfold rdOf
   rw [List.getD_eq_getElem?_getD, List.getElem?_eq_getElem (by omega)]
   exact h _ (List.getElem_mem _)
theorem steps_size : ∀ x ∈ Door.show_steps_tab, x.size ≤ 20 := by decide +kernel
theorem signs_size : ∀ x ∈ Door.show_signs_tab, x.size ≤ 20 := by decide +kernel
theorem steps_row (X : World) (hG : Door.Laid X) : Kd.C Kd.string X (some ⟨0, 0, none⟩) 26 Door.show_steps_tab :=
 Kd.C_of_reads (enc := Value.string) (d := ByteArray.empty) (h1 := fun _ => rfl) ⟨by kernel_rfl, by decide, fun _ => ⟨_, rfl, fun j hj => by rw [add_plain]; exact hG.show_steps_at j hj⟩⟩
theorem signs_row (X : World) (hG : Door.Laid X) : Kd.C Kd.string X (some ⟨1, 0, none⟩) 14 Door.show_signs_tab :=
 Kd.C_of_reads (enc := Value.string) (d := ByteArray.empty) (h1 := fun _ => rfl) ⟨by kernel_rfl, by decide, fun _ => ⟨_, rfl, fun j hj => by rw [add_plain]; exact hG.show_signs_at j hj⟩⟩
theorem steps_call (n : Int) (X : World) (hG : Door.Laid X) : Calls Tryd.prog 38 #[.slice (some ⟨0, 0, none⟩) 26 26, .int .i64 n] X fun e w' => e = .returned (.string (nameS Door.show_steps_tab n)) ∧ Drawn0 X w' :=
 show_name.calls (some ⟨0, 0, none⟩) 26 Door.show_steps_tab n _ X (steps_row X hG) (Nat.le_refl _) (name_f _ _)
theorem signs_call (n : Int) (X : World) (hG : Door.Laid X) : Calls Tryd.prog 38 #[.slice (some ⟨1, 0, none⟩) 14 14, .int .i64 n] X fun e w' => e = .returned (.string (nameS Door.show_signs_tab n)) ∧ Drawn0 X w' :=
 show_name.calls (some ⟨1, 0, none⟩) 14 Door.show_signs_tab n _ X (signs_row X hG) (Nat.le_refl _) (name_f _ _)
theorem value_call (n : Int) (h : inI64 n) (X : World) (hG : Door.Laid X) : Calls Tryd.prog 42 #[.int .i64 n] X fun e w' => e = .returned (.string (vS ++ shD n)) ∧ Below X.heap.size X w' := show_value.calls n _ X (value_f n h) hG
theorem digits_call (n : Int) (h : inI64 n) (X : World) (hG : Door.Laid X) : Calls Tryd.prog 40 #[.int .i64 n] X fun e w' => e = .returned (.string (shD n)) ∧ Below X.heap.size X w' := text_Digits.calls n _ X (digits_f n h) hG
def lays241_ren : Go.Shelf.Ren := ⟨fun | 241 => 74 | 277 => 80 | n => n, fun | 70 => 64 | 9 => 9 | 0 => 0 | 72 => 66 | 37 => 60 | 3 => 3 | 5 => 5 | n => n, fun | n => n⟩
theorem lays241 : Go.Proofs.Lays.n241 Tryd.prog lays241_ren := {
 mixed := by kernel_rfl
 f241 := Tryd.func74.trans (congrArg some (by kernel_rfl))
 f277 := Tryd.func80.trans (congrArg some (by kernel_rfl))
 t0 := Tryd.underlying0
 a0 := Tryd.isAgg0
 z0 := Tryd.sizeOf0
 v0 := Tryd.zeroValue0
 t3 := Tryd.underlying3
 a3 := Tryd.isAgg3
 z3 := Tryd.sizeOf3
 v3 := Tryd.zeroValue3
 t37 := Tryd.underlying60
 a37 := Tryd.isAgg60
 z37 := Tryd.sizeOf60
 v37 := Tryd.zeroValue60
 t70 := Tryd.underlying64
 a70 := Tryd.isAgg64
 z70 := Tryd.sizeOf64
 v70 := Tryd.zeroValue64
 t72 := Tryd.underlying66
 a72 := Tryd.isAgg66
 z72 := Tryd.sizeOf66
 v72 := Tryd.zeroValue66 }
theorem extra241 : Builder.Extra Tryd.prog lays241_ren := {
 sizeBuilder := by kernel_rfl
 liesBuilder := by kernel_rfl
 t5 := Tryd.underlying5
 a5 := Tryd.isAgg5
 z5 := Tryd.sizeOf5
 v5 := Tryd.zeroValue5
 infoByte := by kernel_rfl
 cellsByte := by kernel_rfl
 sizeByte := by kernel_rfl
 neB5 := by decide }
theorem grow_calls (B b n : Nat) (w : World) (hB : B ≤ b) (hbk : w.heap[b]? = some (.cells #[.pointer (some ⟨b, 0, none⟩), .slice none 0 0] 66 (0, 0))) (hBw : B ≤ w.heap.size) (hn : n ≤ 281474976710656) :
  Calls Tryd.prog 74 #[.pointer (some ⟨b, 0, none⟩), .int .i64 n] w fun e w' => e = .returned (.tuple #[]) ∧ (Lib.BuilderAt 66 5 B b (.pointer (some ⟨b, 0, none⟩)) [] w' ∧ Below B w w') :=
 Any.Builder_grow_fresh lays241 extra241 B b n w hB hbk hBw hn
def jnT (sep : List UInt8) (r : List ByteArray) : List UInt8 := r.flatMap (fun y => sep ++ y.data.toList)
def jn (sep : List UInt8) : List ByteArray → List UInt8
 | [] => []
 | x :: r => x.data.toList ++ jnT sep r
def lensB : List ByteArray → Nat
 | [] => 0
 | x :: r => x.size + lensB r
theorem lensB_take_succ : ∀ (l : List ByteArray) (k : Nat) (x : ByteArray), l[k]? = some x → lensB (l.take (k + 1)) = lensB (l.take k) + x.size
 | [], k, x, h => by simp at h
 | y :: l, 0, x, h => by simp at h; subst h; simp [lensB]
 | y :: l, k + 1, x, h => by
  have := lensB_take_succ l k x (by simpa using h)
  simp only [List.take_succ_cons, lensB] at this ⊢
  omega
theorem lensB_take_le : ∀ (l : List ByteArray) (k : Nat), lensB (l.take k) ≤ lensB l
 | [], k => by simp
 | y :: l, 0 => by simp [lensB]
 | y :: l, k + 1 => by have := lensB_take_le l k; simp only [List.take_succ_cons, lensB]; omega
theorem jnT_take_succ (sep : List UInt8) (l : List ByteArray) (k : Nat) (x : ByteArray) (h : l[k]? = some x) : jnT sep (l.take (k + 1)) = jnT sep (l.take k) ++ sep ++ x.data.toList := by
 have hk : k < l.length := by rcases Nat.lt_or_ge k l.length with h' | h'; exact h'; simp [List.getElem?_eq_none h'] at h
 have hx : l[k] = x := by rw [List.getElem?_eq_getElem hk] at h; exact Option.some.inj h
 rw [List.take_succ_eq_append_getElem hk, hx]
 simp [jnT]
theorem jnT_len (sep : List UInt8) (hs : sep.length = 1) : ∀ (l : List ByteArray), (jnT sep l).length = lensB l + l.length
 | [] => by simp [jnT, lensB]
 | y :: l => by
  have := jnT_len sep hs l
  have e : y.data.toList.length = y.size := by simp
  simp only [jnT, List.flatMap_cons, List.length_append, lensB, List.length_cons] at this ⊢
  omega
set_option maxHeartbeats 2000000 in
set_option maxRecDepth 100000 in
theorem copyCheck_fresh (b : Nat) (w : World) (hbk : w.heap[b]? = some (.cells #[.pointer none, .slice none 0 0] 66 (0, 0))) :
  Calls Tryd.prog 52 #[.pointer (some ⟨b, 0, none⟩)] w fun e w' => e = .returned (.tuple #[]) ∧ w' = w.setCell ⟨b, 0, none⟩ (.pointer (some ⟨b, 0, none⟩)) := by
 obtain ⟨j, hj, hjs⟩ := sizeB
 have h : Lib.BuilderAt 66 5 b b (.pointer none) [] w := ⟨Nat.le_refl _, .slice none 0 0, hbk, World.ownsRow_nil _ _ _ _, by simp [Value.ownBlock]⟩
 have h0 := h.cell0
 have hsh := h.shape
 have hfz := h.frozen0
 clear h
 go_enter Tryd.func52, Tryd.ntmps52
 go_wp2
 rw [Lib.run_to_unsafe w ⟨b, 0, none⟩ Tryd.underlying64 Tryd.underlying106 hj (by rw [hjs]; decide) hsh (Nat.zero_lt_succ 1)]
 simp only [Result.andThen]
 rw [Oper.upon_value]
 go_wp2
 rw [run_callFunc_extern Tryd.func66 (by kernel_rfl) (by kernel_rfl) (by kernel_rfl) (e := Extern.AbiNoEscape.same) (by kernel_rfl)]
 rw [Lib.run_noEscape]
 simp only [Result.andThen]
 rw [Oper.upon_value]
 go_wp2
 rw [Lib.run_from_unsafe w ⟨b, 0, none⟩ Tryd.underlying106 Tryd.underlying64 hj hsh liesB]
 simp only [Result.andThen]
 rw [Oper.upon_value]
 go_wp2
 go_end0
 exact ⟨rfl, rfl⟩
set_option maxHeartbeats 2000000 in
set_option maxRecDepth 100000 in
theorem Grow_calls (B b n : Nat) (w : World) (hB : B ≤ b) (hbk : w.heap[b]? = some (.cells #[.pointer none, .slice none 0 0] 66 (0, 0))) (hBw : B ≤ w.heap.size) (hn : n ≤ 281474976710656) :
  Calls Tryd.prog 67 #[.pointer (some ⟨b, 0, none⟩), .int .i64 n] w fun e w' => e = .returned (.tuple #[]) ∧ (Lib.BuilderAt 66 5 B b (.pointer (some ⟨b, 0, none⟩)) [] w' ∧ Below B w w') := by
 have hbk1 : (w.setCell ⟨b, 0, none⟩ (.pointer (some ⟨b, 0, none⟩))).heap[b]? = some (.cells #[.pointer (some ⟨b, 0, none⟩), .slice none 0 0] 66 (0, 0)) := by
  simp [World.setCell, Array.getElem?_modify, hbk]
 have c1 : (w.setCell ⟨b, 0, none⟩ (.pointer (some ⟨b, 0, none⟩))).cell? ⟨b, 1, none⟩ = some (.slice none 0 0) := by rw [Lib.cell_of_heap hbk1]; rfl
 have c1' : (w.setCell ⟨b, 0, none⟩ (.pointer (some ⟨b, 0, none⟩))).drew.cell? ⟨b, 1, none⟩ = some (.slice none 0 0) := c1
 have hb1 : Below B w (w.setCell ⟨b, 0, none⟩ (.pointer (some ⟨b, 0, none⟩))) := (Below.refl B w).setCell (p := ⟨b, 0, none⟩) hB _
 have hU : Lib.BuilderAt 66 5 B b (.pointer (some ⟨b, 0, none⟩)) [] (w.setCell ⟨b, 0, none⟩ (.pointer (some ⟨b, 0, none⟩))) := ⟨hB, .slice none 0 0, hbk1, World.ownsRow_nil _ _ _ _, by simp [Value.ownBlock]⟩
 go_enter Tryd.func67, Tryd.ntmps67
 go_wp2_with (go_at_call 52; refine (copyCheck_fresh b w hbk).mono ?_; rintro e w' ⟨rfl, rfl⟩)
 go_region
 all_goals go_wp2_with (go_at_call 74; refine (grow_calls B b n (w.setCell ⟨b, 0, none⟩ (.pointer (some ⟨b, 0, none⟩))).drew hB hbk1 (by simpa [World.setCell, World.drew, -World.drew_eq] using hBw) hn).mono ?_; rintro e w' ⟨rfl, h1, h2⟩)
 all_goals first
  | (go_end0; exact ⟨rfl, h1, hb1.drew.trans h2⟩)
  | (go_end0; exact ⟨rfl, hU.drew, hb1.drew⟩)
set_option maxHeartbeats 4000000 in
set_option maxRecDepth 100000 in
theorem join_none (w : World) :
  Calls Tryd.prog 53 #[.slice none 0 0, .string ⟨#[44]⟩] w fun e w' => e = .returned (.string ⟨#[]⟩) ∧ Below w.heap.size w w' := by
 go_enter Tryd.func53, Tryd.ntmps53
 go_wp2
 go_ret
 exact ⟨rfl, Below.refl _ _⟩
set_option maxHeartbeats 4000000 in
set_option maxRecDepth 100000 in
theorem join_some (g c : Nat) (l : List ByteArray) (w : World) (hcell : ∀ j x, l[j]? = some x → w.cell? ⟨g, j, none⟩ = some (.string x)) (hg : g < w.heap.size) (hc : l.length ≤ c) (hlen : lensB l + l.length ≤ 70368744177664) :
  Calls Tryd.prog 53 #[.slice (some ⟨g, 0, none⟩) l.length c, .string ⟨#[44]⟩] w fun e w' => e = .returned (.string ⟨(jn [44] l).toArray⟩) ∧ Below w.heap.size w w' := by
 have HC := zm hcell
 have HLEN := zm hlen
 have hN : l.length ≤ 70368744177664 := by omega
 clear hlen hcell
 match l, hN, hc, HC, HLEN with
 | [], hN, hc, HC, HLEN =>
  go_enter Tryd.func53, Tryd.ntmps53
  go_wp2
  go_ret
  exact ⟨rfl, Below.refl _ _⟩
 | [x], hN, hc, HC, HLEN =>
  have hx : w.cell? ⟨g, 0, none⟩ = some (.string x) := HC.out 0 x rfl
  go_enter Tryd.func53, Tryd.ntmps53
  go_wp2
  go_ret
  exact ⟨by simp [jn, jnT], Below.refl _ _⟩
 | x0 :: x1 :: r0, hN, hc, HC, HLEN =>
  obtain ⟨xs, hxs⟩ : ∃ xs, x0 :: x1 :: r0 = xs := ⟨_, rfl⟩
  have h2 : 2 ≤ xs.length := by rw [← hxs]; simp
  have hx0 : w.cell? ⟨g, 0, none⟩ = some (.string x0) := HC.out 0 x0 rfl
  rw [hxs] at hN hc HC HLEN ⊢
  obtain ⟨r, hr⟩ : ∃ r, x1 :: r0 = r := ⟨_, rfl⟩
  rw [hr] at hxs
  have hne0 : ((xs.length : Int) == 0) = false := beq_eq_false_iff_ne.2 (by omega)
  have hne1 : ((xs.length : Int) == 1) = false := beq_eq_false_iff_ne.2 (by omega)
  have hdv : ¬ (9223372036854775807 / ((xs.length : Int) - 1) ≤ 1) := by
   have : 2 ≤ (9223372036854775807 : Int) / ((xs.length : Int) - 1) := Int.le_ediv_of_mul_le (by omega) (by omega)
   omega
  have HXS := zm hxs
  have HX0 := zm hx0
  clear hxs hr hx0
  go_enter Tryd.func53, Tryd.ntmps53
  go_wp2
  go_loop [5, 41] (fun v5 v41 => ∃ k : Nat, v41 = .int .i64 k ∧ k ≤ xs.length ∧ v5 = .int .i64 ((xs.length : Int) - 1 + (lensB (xs.take k) : Nat))) (fun _ v41 => xs.length - (intOf v41).toNat)
  case atStart => exact ⟨0, rfl, Nat.zero_le _, by simp [lensB]⟩
  case round =>
   obtain ⟨k, rfl, hk, rfl⟩ := hrel
   by_cases hlt : k < xs.length
   ·obtain ⟨x, hx⟩ : ∃ x, xs[k]? = some x := ⟨xs[k], List.getElem?_eq_getElem hlt⟩
    have hcx := HC.out k x hx
    have hstep := lensB_take_succ xs k x hx
    have hle := lensB_take_le xs (k + 1)
    have hb := HLEN.out
    obtain ⟨L1, hL1⟩ : ∃ L1, lensB (xs.take (k + 1)) = L1 := ⟨_, rfl⟩
    obtain ⟨L0, hL0⟩ : ∃ L0, lensB (xs.take k) = L0 := ⟨_, rfl⟩
    rw [hL1, hL0] at hstep
    rw [hL1] at hle
    rw [hL0]
    have hbx : L0 + x.size + xs.length ≤ 70368744177664 := by omega
    have HL1 := zm hL1
    have HST := zm hstep
    clear hL1 hL0 hstep hle hb hx
    go_wp2
    refine ⟨⟨k + 1, by go_num, by omega, ?_⟩, by simp [intOf]; omega⟩
    rw [HL1.out, HST.out]
    refine congrArg _ ?_
    omega
   ·have hke : k = xs.length := by omega
    have hfull : xs.take k = xs := List.take_of_length_le (by omega)
    rw [hfull]
    obtain ⟨L, hL⟩ : ∃ L, lensB xs = L := ⟨_, rfl⟩
    have hb := HLEN.out
    rw [hL] at hb ⊢
    have hge : ¬ ((k : Int) < (xs.length : Int)) := by omega
    have HL := zm hL
    obtain ⟨M, hM⟩ : ∃ M, xs.length - 1 + L = M := ⟨_, rfl⟩
    have hn : ((xs.length : Int) - 1 + (L : Nat)) = ((M : Nat) : Int) := by omega
    rw [hn]
    have hMb : M ≤ 70368744177664 := by omega
    clear hn hM
    clear hL hfull hke
    go_wp2_with (first
     | (go_at_call 67; (with_reducible refine (Grow_calls w.heap.size w.heap.size M _ (Nat.le_refl _) (heap_alloc_new w _) (by simp) (by omega)).mono ?_); rintro e w1 ⟨rfl, h1, hb1⟩; refine Aside0.out ?_))
    refine ⟨?_⟩
    have hb1' : Below w.heap.size w w1 := ((Below.refl w.heap.size w).alloc (Nat.le_refl _) _).trans hb1
    have hc0 : w1.cell? ⟨g, 0, none⟩ = some (.string x0) := (hb1'.cell (p := ⟨g, 0, none⟩) hg).trans HX0.out
    have HB1 := zm hb1'
    have ib1 : Lib.IsBuilder 66 5 w.heap.size w.heap.size [] w1 := .inr h1
    have IB1 := zm ib1
    have hJ : ∀ j, (x0.data.toList ++ jnT [44] (r.take j)).length ≤ 70368744177664 := by
     intro j
     have e := jnT_len [44] rfl (r.take j)
     have e2 := lensB_take_le r j
     have e3 : (r.take j).length ≤ r.length := by rw [List.length_take]; omega
     have e4 := HL.out
     rw [← HXS.out] at e4 hb
     have e5 : x0.data.toList.length = x0.size := by simp
     simp only [lensB, List.length_cons] at e4 hb
     rw [List.length_append]
     omega
    have HJ := zm hJ
    have hx0s : x0.size ≤ 70368744177664 := by
     have e4 := HL.out
     rw [← HXS.out] at e4
     simp only [lensB] at e4
     omega
    have HX0S := zm hx0s
    clear hx0s
    have hrl : r.length + 1 = xs.length := by rw [← HXS.out]; simp
    clear hb1' hb1 h1 hJ ib1
    go_wp2_with (first
     | (go_at_call 29; (with_reducible refine (writeString_calls w.heap.size w.heap.size [] x0 _ IB1.out ?c1 HB1.out.size).mono ?_); (case c1 => (have := HX0S.out; simp only [List.length_nil]; omega)); rintro e w2 ⟨rfl, h2, hb2⟩; refine Aside0.out ?_))
    refine ⟨?_⟩
    have h2' : Lib.BuilderAt 66 5 w.heap.size w.heap.size (.pointer (some ⟨w.heap.size, 0, none⟩)) (Lib.byteCells (x0.data.toList ++ jnT [44] (r.take 0))) w2 := by
     have e : ([] : List Value) ++ Lib.strCells x0 = Lib.byteCells (x0.data.toList ++ jnT [44] (r.take 0)) := by simp [jnT, Lib.strCells_eq]
     rw [e] at h2; exact h2
    have H2 := zm (And.intro h2' (HB1.out.trans hb2))
    clear h2 h2' hb2 hc0
    go_wp2
    go_loopw [65] (fun v65 wr => ∃ k : Nat, v65 = .int .i64 k ∧ k ≤ r.length ∧ Aside0 (Lib.BuilderAt 66 5 w.heap.size w.heap.size (.pointer (some ⟨w.heap.size, 0, none⟩)) (Lib.byteCells (x0.data.toList ++ jnT [44] (r.take k))) wr ∧ Below w.heap.size w wr)) (fun v65 _ => r.length - (intOf v65).toNat)
    case atStart => exact ⟨0, rfl, Nat.zero_le _, H2⟩
    case round =>
     obtain ⟨k, rfl, hk, HB⟩ := hrel
     clear hlt hge
     by_cases hlt : k < r.length
     ·obtain ⟨y, hy⟩ : ∃ y, r[k]? = some y := ⟨r[k], List.getElem?_eq_getElem hlt⟩
      have hcy : wr.cell? ⟨g, 1 + k, none⟩ = some (.string y) := (HB.out.2.cell (p := ⟨g, 1 + k, none⟩) hg).trans (HC.out (1 + k) y (by rw [← HXS.out, Nat.add_comm]; simpa using hy))
      have hlt1 : (k : Int) < ((xs.length - 1 : Nat) : Int) := by omega
      have hlt2 : (k : Int) < (xs.length : Int) - 1 := by omega
      have ht := jnT_take_succ [44] r k y hy
      have hj1 := HJ.out (k + 1)
      rw [ht] at hj1
      have hjl : (x0.data.toList ++ jnT [44] (r.take k)).length + 1 + y.size ≤ 70368744177664 := by
       have e : y.data.toList.length = y.size := by simp
       simp only [List.length_append, List.length_cons, List.length_nil] at hj1 ⊢
       omega
      have ib : Lib.IsBuilder 66 5 w.heap.size w.heap.size (Lib.byteCells (x0.data.toList ++ jnT [44] (r.take k))) wr := .inr HB.out.1
      have IB := zm ib
      have HT := zm ht
      have HJL := zm hjl
      clear ib ht hjl hj1 hy
      go_wp2_with (first
       | (go_at_call 29; (with_reducible refine (writeString_calls w.heap.size w.heap.size _ ⟨#[44]⟩ _ IB.out ?c1 HB.out.2.size).mono ?_); (case c1 => (have := HJL.out; rw [Lib.byteCells_length]; show _ + 1 ≤ _; omega)); rintro e w3 ⟨rfl, h3, hb3⟩; refine Aside0.out ?_))
      refine ⟨?_⟩
      have ib3 : Lib.IsBuilder 66 5 w.heap.size w.heap.size (Lib.byteCells (x0.data.toList ++ jnT [44] (r.take k) ++ [44])) w3 := by
       have e : Lib.byteCells (x0.data.toList ++ jnT [44] (r.take k)) ++ Lib.strCells (⟨#[44]⟩ : ByteArray) = Lib.byteCells (x0.data.toList ++ jnT [44] (r.take k) ++ [44]) := by rw [Lib.strCells_eq, ← Lib.byteCells_append]
       rw [e] at h3; exact .inr h3
      have IB3 := zm ib3
      have HB3 := zm (HB.out.2.trans hb3)
      clear ib3 h3 hb3
      go_wp2_with (first
       | (go_at_call 29; (with_reducible refine (writeString_calls w.heap.size w.heap.size _ y _ IB3.out ?c1 HB3.out.size).mono ?_); (case c1 => (have := HJL.out; rw [Lib.byteCells_length, List.length_append]; show _ + 1 + _ ≤ _; omega)); rintro e w4 ⟨rfl, h4, hb4⟩; refine Aside0.out ?_))
      refine ⟨?_⟩
      have HB4 : Aside0 (Lib.BuilderAt 66 5 w.heap.size w.heap.size (.pointer (some ⟨w.heap.size, 0, none⟩)) (Lib.byteCells (x0.data.toList ++ jnT [44] (r.take (k + 1)))) w4 ∧ Below w.heap.size w w4) := by
       refine ⟨?_, HB3.out.trans hb4⟩
       have e : Lib.byteCells (x0.data.toList ++ jnT [44] (r.take k) ++ [44]) ++ Lib.strCells y = Lib.byteCells (x0.data.toList ++ jnT [44] (r.take (k + 1))) := by rw [Lib.strCells_eq, ← Lib.byteCells_append, HT.out]; simp only [List.append_assoc]
       rw [e] at h4; exact h4
      clear h4 hb4
      go_wp2
      exact ⟨⟨k + 1, by go_num, by omega, HB4⟩, by simp [intOf]; omega⟩
     ·have hke : k = r.length := by omega
      have hfull : r.take k = r := List.take_of_length_le (by omega)
      have hge1 : ¬ ((k : Int) < ((xs.length - 1 : Nat) : Int)) := by omega
      have hge2 : ¬ ((k : Int) < (xs.length : Int) - 1) := by omega
      have ib : Lib.IsBuilder 66 5 w.heap.size w.heap.size (Lib.byteCells (x0.data.toList ++ jnT [44] r)) wr := by
       have := HB.out.1
       rw [hfull] at this
       exact .inr this
      have IB := zm ib
      clear ib hfull
      go_wp2_with (first
       | (go_at_call 34; (with_reducible refine (Tryd.Builder_String_any w.heap.size w.heap.size (x0.data.toList ++ jnT [44] r) _ IB.out HB.out.2.size).mono ?_); rintro e w4 ⟨rfl, hb4⟩; refine Aside0.out ?_))
      refine ⟨?_⟩
      have HB5 := zm (HB.out.2.trans hb4)
      clear hb4
      go_wp2
      go_ret
      exact ⟨by rw [← HXS.out]; rfl, HB5.out⟩
theorem lensB_map (F : Int → ByteArray) (b : Nat) (hF : ∀ n, inI64 n → (F n).size ≤ b) : ∀ (l : List Int), (∀ x ∈ l, inI64 x) → lensB (l.map F) ≤ b * l.length
 | [], _ => by simp [lensB]
 | x :: l, h => by
  have h1 := lensB_map F b hF l (fun y hy => h y (List.mem_cons_of_mem _ hy))
  have h2 := hF x (h x List.mem_cons_self)
  simp only [List.map_cons, lensB, List.length_cons, Nat.mul_succ]
  omega
def brS (F : Int → ByteArray) (l : List Int) : ByteArray := (⟨#[40]⟩ : ByteArray) ++ (⟨(jn [44] (l.map F)).toArray⟩ : ByteArray) ++ (⟨#[41]⟩ : ByteArray)
theorem jn_len : ∀ (l : List ByteArray), (jn [44] l).length ≤ lensB l + l.length
 | [] => by simp [jn]
 | x :: r => by
  have := jnT_len [44] rfl r
  have e : x.data.toList.length = x.size := by simp
  simp only [jn, lensB, List.length_append, List.length_cons]
  omega
theorem size_of_list2 (l : List UInt8) : (⟨l.toArray⟩ : ByteArray).size = l.length := by show l.toArray.size = _; simp
set_option maxHeartbeats 4000000 in
set_option maxRecDepth 100000 in
theorem many_value (F : Int → ByteArray) (hF : ∀ n, inI64 n → (F n).size ≤ 60) (hcall : ∀ (n : Int) (X : World), inI64 n → Door.Laid X → Calls Tryd.prog 42 #[.int .i64 n] X fun e w' => e = .returned (.string (F n)) ∧ Below X.heap.size X w')
  (A : Option Addr) (c : Nat) (l : List Int) (w : World) (hr : Kd.C (Kd.int .i64) w A l.length l) (hc : l.length ≤ c) (hl : l.length ≤ 68719476736) (hi : ∀ x ∈ l, inI64 x) (hG : Door.Laid w) :
  Calls Tryd.prog 31 #[.slice A l.length c, .func (.func 42) #[] #[]] w fun e w' => e = .returned (.string ⟨(jn [44] (l.map F)).toArray⟩) ∧ Below w.heap.size w w' := by
 have HR := zm hr
 have HG := zm hG
 have HI := zm hi
 have HF := zm hF
 have HCALL := zm hcall
 clear hr hG hi hF hcall
 go_enter Tryd.func31, Tryd.ntmps31
 go_wp2
 go_loopw [5, 10] (fun v5 v10 wr => ∃ k : Nat, v10 = .int .i64 k ∧ k ≤ l.length ∧ Aside0 (Kd.R Kd.string 9 wr w.heap.size (fun _ => True) v5 ((l.take k).map F) ∧ Below w.heap.size w wr)) (fun _ v10 _ => l.length - (intOf v10).toNat)
 case atStart => exact ⟨0, rfl, Nat.zero_le _, ⟨Kd.R_nil _ _ _ _ _, Below.refl _ _⟩⟩
 case round =>
  obtain ⟨k, rfl, hk, HS⟩ := hrel
  by_cases hlt : k < l.length
  ·obtain ⟨n, hn⟩ : ∃ n, l[k] = n := ⟨_, rfl⟩
   have hin : inI64 n := by rw [← hn]; exact HI.out _ (List.getElem_mem _)
   have hk0 : 0 ≤ (k : Int) := by omega
   have hk1 : (k : Int) < (l.length : Int) := by omega
   obtain ⟨ad, e, hx⟩ := Kd.at_int (Kd.C_below HR.out HS.out.2) k hk0 hk1
   subst e
   have hx' : wr.cell? (ad.add k) = some (.int .i64 n) := by
    rw [Int.toNat_natCast] at hx
    rw [hx]
    have : rd l (k : Int) = n := by
     unfold rd
     rw [Int.toNat_natCast, List.getD_eq_getElem?_getD, List.getElem?_eq_getElem hlt, Option.getD_some, hn]
    rw [this]
   have htk : (l.take (k + 1)).map F = (l.take k).map F ++ [F n] := by
    rw [List.take_succ_eq_append_getElem hlt, List.map_append, hn]; rfl
   have HTK := zm htk
   have HIN := zm hin
   have hlen : ((l.take k).map F).length ≤ 68719476736 := by rw [List.length_map, List.length_take]; omega
   have HLN := zm hlen
   clear hx htk hin hn hlen
   go_wp2_with (first
    | (go_at_call 42; (with_reducible refine (HCALL.out n _ HIN.out (HG.out.on HS.out.2)).mono ?_); rintro e W2 ⟨rfl, hb2⟩; have HB2 := zm (below_step HS.out.2 hb2); have HR2 := zm (Kd.R_lower (Kd.R_step (ok := fun _ => True) HS.out.1 (fun k _ hk => hb2.block k hk)) (Nat.le_refl _)); clear hb2)
    | ((with_reducible refine gate_builtin (b := .append) (xs := #[.tmp 14, .tmp 18]) rfl ?_); at_builtin; refine Kd.R_append Kd.string (w0 := w) w.heap.size rfl (.tmp 14) (.tmp 18) 78 9 (.string ByteArray.empty) 16 rfl Tryd.underlying78 (by kernel_rfl) rfl (by decide) (by omega) _ ((l.take k).map F) (F n) [.string (F n)] (fun _ => True) (fun _ => False) rfl rfl ?aP (fun _ hk => hk.elim) ?aF ?aO ?aB ?aS ?aL ?_; (case aP => exact rfl); (case aB => exact HB2.out); (case aF => exact (fun _ _ => trivial)); (case aO => exact HR2.out); (case aS => exact below_size HB2.out); (case aL => have := HLN.out; omega); intro v1 w1 ho hb hg hat; rw [← HTK.out] at ho; have HS2 := zm (And.intro ho hb); clear ho hb hg hat))
   exact ⟨⟨k + 1, by go_num, by omega, HS2⟩, by simp [intOf]; omega⟩
  ·have hke : k = l.length := by omega
   have hfull : l.take k = l := List.take_of_length_le (by omega)
   have hR := HS.out.1
   rw [hfull] at hR
   have hge : ¬ ((k : Int) < (l.length : Int)) := by omega
   have hlen : lensB (l.map F) + (l.map F).length ≤ 70368744177664 := by
    have := lensB_map F 60 HF.out l HI.out
    rw [List.length_map]; omega
   obtain ⟨L, hL⟩ : ∃ L, l.map F = L := ⟨_, rfl⟩
   rw [hL] at hR hlen
   have HL := zm hL
   have HLEN := zm hlen
   have hR0 := hR
   obtain ⟨h0, inner, ho, hrr⟩ := hR0
   obtain ⟨hll, hor⟩ := ho
   clear hL hlen hfull hke hrr hll h0
   rcases hor with ⟨rfl, hn0⟩ | ⟨g, cap, cur, rfl, hbg, hcur, hle, hmx, hsz, htk⟩
   ·have hLn : L = [] := List.length_eq_zero_iff.1 hn0
    have HLn := zm hLn
    clear hR hLn hn0
    go_wp2_with (first
     | (go_at_call 53; (with_reducible refine (join_none _).mono ?_); rintro e W3 ⟨rfl, hb3⟩; have HB3 := zm (below_step HS.out.2 hb3); clear hb3))
    go_ret
    exact ⟨by rw [HL.out, HLn.out]; rfl, HB3.out⟩
   ·have hcell : ∀ j x, L[j]? = some x → wr.cell? ⟨g, j, none⟩ = some (.string x) := by
     intro j x hx
     have hj : j < L.length := by rcases Nat.lt_or_ge j L.length with h' | h'; exact h'; simp [List.getElem?_eq_none h'] at hx
     have h1 := (Kd.R_cell ByteArray.empty hR (j : Int) (by omega) (by omega)).1
     rw [Int.toNat_natCast] at h1
     rw [h1]
     unfold rdOf
     rw [Int.toNat_natCast, List.getD_eq_getElem?_getD, hx, Option.getD_some]
    have hgl : g < wr.heap.size := by
     rcases Nat.lt_or_ge g wr.heap.size with h' | h'
     ·exact h'
     ·simp [Array.getElem?_eq_none h'] at hcur
    have HCELL := zm hcell
    have HGL := zm hgl
    have HLE := zm hle
    clear hR hcell hgl hle hcur hbg hmx hsz htk
    go_wp2_with (first
     | (go_at_call 53; (with_reducible refine (join_some g cap L _ HCELL.out HGL.out HLE.out HLEN.out).mono ?_); rintro e W3 ⟨rfl, hb3⟩; have HB3 := zm (below_step HS.out.2 hb3); clear hb3))
    go_ret
    exact ⟨by first | (rw [HL.out]; done) | (rw [HL.out]; rfl), HB3.out⟩
set_option maxHeartbeats 4000000 in
set_option maxRecDepth 100000 in
theorem brackets_value (F : Int → ByteArray) (hF : ∀ n, inI64 n → (F n).size ≤ 60) (hcall : ∀ (n : Int) (X : World), inI64 n → Door.Laid X → Calls Tryd.prog 42 #[.int .i64 n] X fun e w' => e = .returned (.string (F n)) ∧ Below X.heap.size X w')
  (A : Option Addr) (c : Nat) (l : List Int) (w : World) (hr : Kd.C (Kd.int .i64) w A l.length l) (hc : l.length ≤ c) (hl : l.length ≤ 68719476736) (hi : ∀ x ∈ l, inI64 x) (hG : Door.Laid w) :
  Calls Tryd.prog 30 #[.slice A l.length c, .func (.func 42) #[] #[]] w fun e w' => e = .returned (.string (brS F l)) ∧ Below w.heap.size w w' := by
 have HM := zm (many_value F hF hcall A c l w hr hc hl hi hG)
 have hs : (⟨(jn [44] (l.map F)).toArray⟩ : ByteArray).size ≤ 70368744177664 := by
  rw [size_of_list2]
  have h1 := jn_len (l.map F)
  have h2 := lensB_map F 60 hF l hi
  rw [List.length_map] at h1
  omega
 unfold brS
 obtain ⟨x, hx⟩ : ∃ x, (⟨(jn [44] (l.map F)).toArray⟩ : ByteArray) = x := ⟨_, rfl⟩
 rw [hx] at hs HM ⊢
 have g1 : 1 + x.size ≤ 9223372036854775807 := by omega
 have g2 : 1 + x.size + 1 ≤ 9223372036854775807 := by omega
 have g1a := eq_true g1
 have g1b := decide_eq_true g1
 have g1c : (9223372036854775807 < 1 + x.size) = False := eq_false (Nat.not_lt.2 g1)
 have g2a := eq_true g2
 have g2b := decide_eq_true g2
 have g2c : (9223372036854775807 < 1 + x.size + 1) = False := eq_false (Nat.not_lt.2 g2)
 clear hx hr hc hl hi hG hF hcall
 go_enter Tryd.func30, Tryd.ntmps30
 go_wp2_with (first | (go_at_call 31; (with_reducible refine HM.out.mono ?_); rintro e W3 ⟨rfl, hb3⟩; have HB3 := zm hb3; clear hb3))
 go_ret
 exact ⟨rfl, HB3.out⟩

def quoteS (s : ByteArray) : ByteArray := ⟨(34 :: (qall s.data.toList ++ [34])).toArray⟩
theorem quoteS_size (s : ByteArray) : (quoteS s).size ≤ 3 * s.size + 2 := by
 unfold quoteS
 rw [size_of_list2]
 have := qall_len s.data.toList
 have e : s.data.toList.length = s.size := by simp
 simp only [List.length_cons, List.length_append, List.length_nil]
 omega
theorem quote_call (s : ByteArray) (h : s.size ≤ 1099511627776) (X : World) : Calls Tryd.prog 41 #[.string s] X fun e w' => e = .returned (.string (quoteS s)) ∧ Below X.heap.size X w' := text_Quote.calls s _ X (by unfold text_Quote.f; rw [if_pos (by omega)]; rfl)
def vF (n : Int) : ByteArray := vS ++ shD n
theorem vF_size (n : Int) (h : inI64 n) : (vF n).size ≤ 60 := by
 unfold vF; rw [ByteArray.size_append]; have := shD_size n h; have : vS.size = 1 := rfl; omega
theorem br_call (A : Option Addr) (c : Nat) (l : List Int) (X : World) (hr : Kd.C (Kd.int .i64) X A l.length l) (hc : l.length ≤ c) (hl : l.length ≤ 68719476736) (hi : ∀ x ∈ l, inI64 x) (hG : Door.Laid X) : Calls Tryd.prog 30 #[.slice A l.length c, .func (.func 42) #[] #[]] X fun e w' => e = .returned (.string (brS vF l)) ∧ Below X.heap.size X w' :=
 brackets_value vF vF_size (fun n X h hG => value_call n h X hG) A c l X hr hc hl hi hG
theorem brS_size (l : List Int) (hl : l.length ≤ 68719476736) (hi : ∀ x ∈ l, inI64 x) : (brS vF l).size ≤ 4260607557633 := by
 unfold brS
 rw [ByteArray.size_append, ByteArray.size_append]
 have e3 := size_of_list2 (jn [44] (l.map vF))
 have h1 := jn_len (l.map vF)
 have h2 := lensB_map vF 60 vF_size l hi
 rw [List.length_map] at h1
 have e1 : (⟨#[40]⟩ : ByteArray).size = 1 := rfl
 have e2 : (⟨#[41]⟩ : ByteArray).size = 1 := rfl
 omega
def stackS : ByteArray := ⟨#[32, 115, 116, 97, 99, 107]⟩
def stepS (K a b c n : Int) (s : ByteArray) (l : List Int) (st : Bool) (acc : ByteArray) (d : UInt8) : ByteArray :=
 if d = 78 then (if K = 3 then acc ++ (sp ++ nameS Door.show_signs_tab n) else acc ++ (sp ++ shD n))
 else if d = 83 then acc ++ (sp ++ quoteS s) else if d = 65 then acc ++ (sp ++ (vS ++ shD a)) else if d = 66 then acc ++ (sp ++ (vS ++ shD b)) else if d = 67 then acc ++ (sp ++ (vS ++ shD c)) else if d = 76 then acc ++ (sp ++ brS vF l)
 else if st = true then acc ++ stackS else acc
def outS (K a b c n : Int) (s : ByteArray) (l : List Int) (st : Bool) (p : List UInt8) : ByteArray := p.foldl (stepS K a b c n s l st) (nameS Door.show_steps_tab K)
theorem size_app (x y : ByteArray) : (x ++ y).size = x.size + y.size := by simp
theorem outS_size (K a b c n : Int) (s : ByteArray) (l : List Int) (st : Bool) (hs : s.size ≤ 1099511627776) (hl : l.length ≤ 68719476736) (hi : ∀ x ∈ l, inI64 x) (ha : inI64 a) (hb : inI64 b) (hc : inI64 c) (hn : inI64 n) (p : List UInt8) : (outS K a b c n s l st p).size ≤ 20 + 8796093022208 * p.length := by
 have key : ∀ (p : List UInt8) (x : ByteArray), (p.foldl (stepS K a b c n s l st) x).size ≤ x.size + 8796093022208 * p.length := by
  intro p
  induction p with
  | nil => intro x; simp
  | cons d p ih =>
   intro x
   have h1 := ih (stepS K a b c n s l st x d)
   have h2 : (stepS K a b c n s l st x d).size ≤ x.size + 8796093022208 := by
    have e1 := shD_size a ha
    have e2 := shD_size b hb
    have e3 := shD_size c hc
    have e4 := shD_size n hn
    have e5 := nameS_size Door.show_signs_tab n signs_size
    have e6 : sp.size = 1 := rfl
    have e7 : vS.size = 1 := rfl
    have e8 : stackS.size = 6 := rfl
    have e9 := quoteS_size s
    have e10 := brS_size l hl hi
    unfold stepS
    repeat' split
    all_goals (try simp only [size_app])
    all_goals omega
   rw [List.foldl_cons, List.length_cons]
   omega
 have := key p (nameS Door.show_steps_tab K)
 have := nameS_size Door.show_steps_tab K steps_size
 unfold outS
 omega
/-- How things lie when the bytes p are through. -/
structure OpSt (w : World) (K a b c n : Int) (s : ByteArray) (A : Option Addr) (cp : Nat) (l : List Int) (st : Bool) (B : Nat) (f : ByteArray) (W : World) : Prop where
 bel : Below w.heap.size w W
 o : W.heap[w.heap.size]? = some (.cells #[.int .i64 K, .int .i64 a, .int .i64 b, .int .i64 c, .int .i64 n, .string s, .slice A l.length cp, .bool st] 24 (0, 0))
 by_ : ReadsInt W .u8 (some ⟨B, 0, none⟩) f.size (bytesOf f)
 sz : w.heap.size < W.heap.size
theorem OpSt.on {w : World} {K a b c n : Int} {s : ByteArray} {A : Option Addr} {cp : Nat} {l : List Int} {st : Bool} {B : Nat} {f : ByteArray} {W W' : World} (h : OpSt w K a b c n s A cp l st B f W) (hb : Below W.heap.size W W') : OpSt w K a b c n s A cp l st B f W' :=
 ⟨below_step h.bel hb, blk_below h.o hb, ⟨h.by_.1, h.by_.2.1, fun hn => by
  obtain ⟨ad, e, hc⟩ := h.by_.2.2 hn
  exact ⟨ad, e, fun i hi => (hb.cell (World.block_lt_of_cell? _ _ (hc i hi))).trans (hc i hi)⟩⟩, Nat.lt_of_lt_of_le h.sz hb.size⟩
instance (n : Int) : Decidable (inI64 n) := by unfold inI64; exact inferInstance
def show_op.f (a0_0 a0_1 a0_2 a0_3 a0_4 : Int) (a0_5 : ByteArray) (l0_6 : List Int) (a0_7 : Bool) : Option ByteArray :=
 if (a0_5.size ≤ 1099511627776 ∧ l0_6.length ≤ 68719476736 ∧ ∀ x ∈ l0_6, inI64 x) ∧ inI64 a0_1 ∧ inI64 a0_2 ∧ inI64 a0_3 ∧ inI64 a0_4 then some (outS a0_0 a0_1 a0_2 a0_3 a0_4 a0_5 l0_6 a0_7 (fieldsL a0_0).data.toList) else none
theorem byte_ne (d e : UInt8) (h : ¬ d = e) : ((d.toNat : Int) == (e.toNat : Int)) = false := beq_eq_false_iff_ne.2 (fun h' => h (UInt8.toNat_inj.1 (by omega)))
theorem Fields_f (K : Int) : kind_Fields.f K = some (fieldsL K) := by unfold kind_Fields.f kind_fieldsOf.f; rfl
set_option maxHeartbeats 4000000 in
set_option maxRecDepth 100000 in
theorem show_op.calls (a0_0 : Int) (a0_1 : Int) (a0_2 : Int) (a0_3 : Int) (a0_4 : Int) (a0_5 : ByteArray) (A0_6 : Option Addr) (c0_6 : Nat) (l0_6 : List Int) (a0_7 : Bool) (r : ByteArray) (w : World) (hr0_6 : Kd.C (Kd.int .i64) w A0_6 l0_6.length l0_6) (hc0_6 : l0_6.length ≤ c0_6) (h : show_op.f a0_0 a0_1 a0_2 a0_3 a0_4 a0_5 l0_6 a0_7 = some r) (hG : Door.Laid w) :
  Calls Tryd.prog 19 #[.agg #[.int .i64 a0_0, .int .i64 a0_1, .int .i64 a0_2, .int .i64 a0_3, .int .i64 a0_4, .string a0_5, .slice A0_6 l0_6.length c0_6, .bool a0_7]] w fun e w' => e = .returned (.string r) ∧ Below w.heap.size w w' := by
 unfold show_op.f at h
 split at h
 rotate_left
 ·cases h
 rename_i hok
 obtain ⟨⟨hss, hll, hli⟩, ha, hb, hc, hn⟩ := hok
 have HSS := zm hss
 have HLL := zm hll
 have HLI := zm hli
 have HR := zm hr0_6
 have HCC := zm hc0_6
 obtain rfl := Option.some.inj h
 have HA := zm ha
 have HB := zm hb
 have HC := zm hc
 have HN := zm hn
 have HG := zm hG
 obtain ⟨f, hf⟩ : ∃ f, fieldsL a0_0 = f := ⟨_, rfl⟩
 rw [hf]
 have hfs : f.size ≤ 8 := by
  rw [← hf]; unfold fieldsL; split
  ·rename_i h
   have : ∀ n : Fin 26, (Door.kind_fields_tab.getD n.val ByteArray.empty).size ≤ 8 := by decide +kernel
   exact this ⟨a0_0.toNat, by omega⟩
  ·decide
 have HF := zm hf
 have HOUT := zm (fun p => outS_size a0_0 a0_1 a0_2 a0_3 a0_4 a0_5 l0_6 a0_7 hss hll hli ha hb hc hn p)
 clear h hf ha hb hc hn hG hr0_6 hc0_6 hss hll hli
 obtain ⟨W1, hW1⟩ : ∃ W1, w.alloc (.cells #[.int .i64 a0_0, .int .i64 a0_1, .int .i64 a0_2, .int .i64 a0_3, .int .i64 a0_4, .string a0_5, .slice A0_6 l0_6.length c0_6, .bool a0_7] 24) = W1 := ⟨_, rfl⟩
 have hb1 : Below w.heap.size w W1 := by rw [← hW1]; exact below_alloc (Below.refl _ _) _
 have hB1 : W1.heap[w.heap.size]? = some (.cells #[.int .i64 a0_0, .int .i64 a0_1, .int .i64 a0_2, .int .i64 a0_3, .int .i64 a0_4, .string a0_5, .slice A0_6 l0_6.length c0_6, .bool a0_7] 24 (0, 0)) := by rw [← hW1]; exact heap_alloc_new w _
 have hs1 : W1.heap.size = w.heap.size + 1 := by rw [← hW1]; simp
 have HS1 := zm hs1
 have HBK := zm hB1
 have HB1 := zm hb1
 have HG1 := zm (HG.out.on hb1)
 have o0 : W1.cell? ⟨w.heap.size, 0, none⟩ = some (.int .i64 a0_0) := (blk_cell hB1 0).trans rfl
 clear hb1 hB1 hs1
 have kb := fun W => print_bytes (P := Tryd.prog) 9 60 5 Tryd.underlying9 Tryd.underlying60 Tryd.underlying5 f W
 go_enter Tryd.func19, Tryd.ntmps19
 go_wp2
 go_quiet ((go_at_call 38; refine Calls.quiet_of (v := .string (nameS Door.show_steps_tab a0_0)) ?_; (with_reducible refine (steps_call a0_0 _ (HG1.out.on (pw_below_drewN (Below.refl _ _) _))).mono ?_); rintro e Z2 ⟨he, ⟨hd⟩⟩; exact ⟨he, hd⟩))
 go_wp2_with (first | (go_at_call 39; (with_reducible refine (kind_Fields.calls a0_0 f _ (by rw [Fields_f, HF.out]) (HG1.out.on (pw_below_drewN (Below.refl _ _) _))).mono ?_); rintro e Z2 ⟨rfl, ⟨nd, rfl⟩⟩))
 have hst0 : OpSt w a0_0 a0_1 a0_2 a0_3 a0_4 a0_5 A0_6 c0_6 l0_6 a0_7 W1.heap.size f (Lib.bytesWorld (W1.drewN (nq + nd)) 5 f) := by
  have hold : ∀ k, k < W1.heap.size → (Lib.bytesWorld (W1.drewN (nq + nd)) 5 f).heap[k]? = W1.heap[k]? := fun k hk => Lib.bytesWorld_at_old (W1.drewN (nq + nd)) _ f k hk
  have hs1 := HS1.out
  refine ⟨?_, ?_, ?_, ?_⟩
  ·exact bytes_below (pw_below_drewN HB1.out _) (by show w.heap.size ≤ W1.heap.size; omega) _ _
  ·rw [hold _ (by omega)]; exact HBK.out
  ·exact bytes_reads (W1.drewN (nq + nd)) 5 f (by omega)
  ·rw [Lib.bytesWorld_size]; show w.heap.size < W1.heap.size + 1; omega
 have HST := zm hst0
 clear hst0 kb o0 hW1
 go_loopw [3, 15] (fun v3 v15 wr => ∃ k : Nat, v15 = .int .i64 k ∧ k ≤ f.size ∧ v3 = .string (outS a0_0 a0_1 a0_2 a0_3 a0_4 a0_5 l0_6 a0_7 (f.data.toList.take k)) ∧ Aside0 (OpSt w a0_0 a0_1 a0_2 a0_3 a0_4 a0_5 A0_6 c0_6 l0_6 a0_7 W1.heap.size f wr)) (fun v3 v15 _ => f.size - (intOf v15).toNat)
 case atStart => exact ⟨0, rfl, Nat.zero_le _, rfl, HST⟩
 case round =>
  obtain ⟨k, rfl, hk, rfl, HS⟩ := hrel
  clear HST
  obtain ⟨acc, hacc⟩ : ∃ acc, outS a0_0 a0_1 a0_2 a0_3 a0_4 a0_5 l0_6 a0_7 (f.data.toList.take k) = acc := ⟨_, rfl⟩
  by_cases hlt : k < f.size
  ·have hsn : f.data.toList.take (k + 1) = f.data.toList.take k ++ [f[k]] := by
    rw [List.take_succ_eq_append_getElem (by rw [data_length]; exact hlt)]; rfl
   have hsz : acc.size ≤ 70368744177684 := by
    have := HOUT.out (f.data.toList.take k)
    rw [hacc] at this
    have h2 : (f.data.toList.take k).length ≤ 8 := by rw [List.length_take]; omega
    omega
   have hnext : ∀ d, f[k] = d → outS a0_0 a0_1 a0_2 a0_3 a0_4 a0_5 l0_6 a0_7 (f.data.toList.take (k + 1)) = stepS a0_0 a0_1 a0_2 a0_3 a0_4 a0_5 l0_6 a0_7 acc d := by
    intro d hd
    rw [hsn, hd, ← hacc]
    unfold outS
    rw [List.foldl_append]; rfl
   have HACC := zm hacc
   rw [hacc]
   have hby := HS.out.by_
   have q0 : wr.cell? ⟨W1.heap.size, k, none⟩ = some (.int .u8 f[k].toNat) := by
    obtain ⟨ad, e, hc⟩ := hby.2.2 (by omega)
    cases e
    have := hc k hlt
    rw [add_plain] at this
    rw [this]
    have hk' : k < f.data.toList.length := by rw [data_length]; exact hlt
    simp [bytesOf, List.getD_eq_getElem?_getD, List.getElem?_eq_getElem hk']
    rfl
   have o0 := blk_cell HS.out.o 0
   have o1 := blk_cell HS.out.o 1
   have o2 := blk_cell HS.out.o 2
   have o3 := blk_cell HS.out.o 3
   have o4 := blk_cell HS.out.o 4
   have o5 := blk_cell HS.out.o 5
   have o6 := blk_cell HS.out.o 6
   have o7 := blk_cell HS.out.o 7
   have hb0 : 0 ≤ (k : Int) := by omega
   obtain ⟨d, hd⟩ : ∃ d, f[k] = d := ⟨_, rfl⟩
   have HN1 := zm (hnext d hd)
   rw [hd] at q0
   have HSZ := zm hsz
   clear hd hsn hby hnext hacc
   clear hsz
   have H2 : ∀ x : ByteArray, x.size ≤ 8796093022000 → 1 + x.size ≤ 9223372036854775807 ∧ acc.size + (1 + x.size) ≤ 9223372036854775807 := fun x hx => by have := HSZ.out; omega
   have H2A := zm H2
   clear H2
   by_cases h78 : d = 78
   ·subst h78
    by_cases hK : a0_0 = 3
    ·subst hK
     obtain ⟨x, hx⟩ : ∃ x, nameS Door.show_signs_tab a0_4 = x := ⟨_, rfl⟩
     have hxs : x.size ≤ 8796093022000 := by rw [← hx]; have := nameS_size Door.show_signs_tab a0_4 signs_size; omega
     obtain ⟨g1, g2⟩ := H2A.out x hxs
     have HX := zm hx
     clear hx
     have g1a := eq_true g1
     have g1b := decide_eq_true g1
     have g1c : (9223372036854775807 < 1 + x.size) = False := eq_false (Nat.not_lt.2 g1)
     have g2a := eq_true g2
     have g2b := decide_eq_true g2
     have g2c : (9223372036854775807 < acc.size + (1 + x.size)) = False := eq_false (Nat.not_lt.2 g2)
     go_wp2
     go_quiet ((go_at_call 38; refine Calls.quiet_of (v := .string x) ?_; (with_reducible refine (signs_call a0_4 _ (HG.out.on (pw_below_drewN HS.out.bel _))).mono ?_); rintro e Z2 ⟨he, ⟨hd⟩⟩; exact ⟨he.trans (by rw [HX.out]), hd⟩))
     go_wp2
     refine ⟨⟨k + 1, by go_num, by omega, ?_, ⟨HS.out.on (pw_below_drewN (Below.refl _ _) _)⟩⟩, by simp [intOf]; omega⟩
     rw [HN1.out, ← HX.out]
     unfold stepS
     rw [if_pos rfl, if_pos rfl]; rfl
    ·obtain ⟨x, hx⟩ : ∃ x, shD a0_4 = x := ⟨_, rfl⟩
     have hxs : x.size ≤ 8796093022000 := by rw [← hx]; have := shD_size a0_4 HN.out; omega
     obtain ⟨g1, g2⟩ := H2A.out x hxs
     have HX := zm hx
     have HK := zm hK
     have eK : (a0_0 == 3) = false := beq_eq_false_iff_ne.2 hK
     have eK2 : (a0_0 = 3) = False := eq_false hK
     clear hx hK
     have g1a := eq_true g1
     have g1b := decide_eq_true g1
     have g1c : (9223372036854775807 < 1 + x.size) = False := eq_false (Nat.not_lt.2 g1)
     have g2a := eq_true g2
     have g2b := decide_eq_true g2
     have g2c : (9223372036854775807 < acc.size + (1 + x.size)) = False := eq_false (Nat.not_lt.2 g2)
     go_wp2_with (first | (go_at_call 40; (with_reducible refine (digits_call a0_4 HN.out _ (HG.out.on HS.out.bel)).mono ?_); rintro e W3 ⟨rfl, hB3⟩; rw [HX.out]; refine Aside0.out ?_))
     refine ⟨?_⟩
     have HS3 := zm (HS.out.on hB3)
     clear hB3
     go_wp2
     refine ⟨⟨k + 1, by go_num, by omega, ?_, HS3⟩, by simp [intOf]; omega⟩
     rw [HN1.out, ← HX.out]
     unfold stepS
     rw [if_pos rfl, if_neg HK.out]; rfl
   ·have e78 : ((d.toNat : Int) == 78) = false := byte_ne d 78 h78
    have HND := zm h78
    clear h78
    by_cases h83 : d = 83
    ·subst h83
     obtain ⟨x, hx⟩ : ∃ x, quoteS a0_5 = x := ⟨_, rfl⟩
     have hxs : x.size ≤ 8796093022000 := by rw [← hx]; have := quoteS_size a0_5; have := HSS.out; omega
     obtain ⟨g1, g2⟩ := H2A.out x hxs
     have HX := zm hx
     clear hx
     have g1a := eq_true g1
     have g1b := decide_eq_true g1
     have g1c : (9223372036854775807 < 1 + x.size) = False := eq_false (Nat.not_lt.2 g1)
     have g2a := eq_true g2
     have g2b := decide_eq_true g2
     have g2c : (9223372036854775807 < acc.size + (1 + x.size)) = False := eq_false (Nat.not_lt.2 g2)
     go_wp2_with (first | (go_at_call 41; (with_reducible refine (quote_call a0_5 HSS.out _).mono ?_); rintro e W3 ⟨rfl, hB3⟩; rw [HX.out]; refine Aside0.out ?_))
     refine ⟨?_⟩
     have HS3 := zm (HS.out.on hB3)
     clear hB3
     go_wp2
     refine ⟨⟨k + 1, by go_num, by omega, ?_, HS3⟩, by simp [intOf]; omega⟩
     rw [HN1.out, ← HX.out]
     unfold stepS
     rw [if_neg (by decide), if_pos rfl]; rfl
    have e83 : ((d.toNat : Int) == 83) = false := byte_ne d 83 h83
    have HN83 := zm h83
    clear h83
    by_cases h65 : d = 65
    ·subst h65
     obtain ⟨x, hx⟩ : ∃ x, vS ++ shD a0_1 = x := ⟨_, rfl⟩
     have hxs : x.size ≤ 8796093022000 := by rw [← hx, size_app]; have := shD_size a0_1 HA.out; have : vS.size = 1 := rfl; omega
     obtain ⟨g1, g2⟩ := H2A.out x hxs
     have HX := zm hx
     clear hx
     have g1a := eq_true g1
     have g1b := decide_eq_true g1
     have g1c : (9223372036854775807 < 1 + x.size) = False := eq_false (Nat.not_lt.2 g1)
     have g2a := eq_true g2
     have g2b := decide_eq_true g2
     have g2c : (9223372036854775807 < acc.size + (1 + x.size)) = False := eq_false (Nat.not_lt.2 g2)
     go_wp2_with (first | (go_at_call 42; (with_reducible refine (value_call a0_1 HA.out _ (HG.out.on HS.out.bel)).mono ?_); rintro e W3 ⟨rfl, hB3⟩; rw [HX.out]; refine Aside0.out ?_))
     refine ⟨?_⟩
     have HS3 := zm (HS.out.on hB3)
     clear hB3
     go_wp2
     refine ⟨⟨k + 1, by go_num, by omega, ?_, HS3⟩, by simp [intOf]; omega⟩
     rw [HN1.out, ← HX.out]
     unfold stepS
     rw [if_neg (by decide), if_neg (by decide), if_pos rfl]; rfl
    by_cases h66 : d = 66
    ·subst h66
     obtain ⟨x, hx⟩ : ∃ x, vS ++ shD a0_2 = x := ⟨_, rfl⟩
     have hxs : x.size ≤ 8796093022000 := by rw [← hx, size_app]; have := shD_size a0_2 HB.out; have : vS.size = 1 := rfl; omega
     obtain ⟨g1, g2⟩ := H2A.out x hxs
     have HX := zm hx
     clear hx
     have g1a := eq_true g1
     have g1b := decide_eq_true g1
     have g1c : (9223372036854775807 < 1 + x.size) = False := eq_false (Nat.not_lt.2 g1)
     have g2a := eq_true g2
     have g2b := decide_eq_true g2
     have g2c : (9223372036854775807 < acc.size + (1 + x.size)) = False := eq_false (Nat.not_lt.2 g2)
     go_wp2_with (first | (go_at_call 42; (with_reducible refine (value_call a0_2 HB.out _ (HG.out.on HS.out.bel)).mono ?_); rintro e W3 ⟨rfl, hB3⟩; rw [HX.out]; refine Aside0.out ?_))
     refine ⟨?_⟩
     have HS3 := zm (HS.out.on hB3)
     clear hB3
     go_wp2
     refine ⟨⟨k + 1, by go_num, by omega, ?_, HS3⟩, by simp [intOf]; omega⟩
     rw [HN1.out, ← HX.out]
     unfold stepS
     rw [if_neg (by decide), if_neg (by decide), if_neg (by decide), if_pos rfl]; rfl
    by_cases h67 : d = 67
    ·subst h67
     obtain ⟨x, hx⟩ : ∃ x, vS ++ shD a0_3 = x := ⟨_, rfl⟩
     have hxs : x.size ≤ 8796093022000 := by rw [← hx, size_app]; have := shD_size a0_3 HC.out; have : vS.size = 1 := rfl; omega
     obtain ⟨g1, g2⟩ := H2A.out x hxs
     have HX := zm hx
     clear hx
     have g1a := eq_true g1
     have g1b := decide_eq_true g1
     have g1c : (9223372036854775807 < 1 + x.size) = False := eq_false (Nat.not_lt.2 g1)
     have g2a := eq_true g2
     have g2b := decide_eq_true g2
     have g2c : (9223372036854775807 < acc.size + (1 + x.size)) = False := eq_false (Nat.not_lt.2 g2)
     go_wp2_with (first | (go_at_call 42; (with_reducible refine (value_call a0_3 HC.out _ (HG.out.on HS.out.bel)).mono ?_); rintro e W3 ⟨rfl, hB3⟩; rw [HX.out]; refine Aside0.out ?_))
     refine ⟨?_⟩
     have HS3 := zm (HS.out.on hB3)
     clear hB3
     go_wp2
     refine ⟨⟨k + 1, by go_num, by omega, ?_, HS3⟩, by simp [intOf]; omega⟩
     rw [HN1.out, ← HX.out]
     unfold stepS
     rw [if_neg (by decide), if_neg (by decide), if_neg (by decide), if_neg (by decide), if_pos rfl]; rfl
    have e65 : ((d.toNat : Int) == 65) = false := byte_ne d 65 h65
    have e66 : ((d.toNat : Int) == 66) = false := byte_ne d 66 h66
    have e67 : ((d.toNat : Int) == 67) = false := byte_ne d 67 h67
    have HOTH := zm (And.intro h65 (And.intro h66 h67))
    clear h65 h66 h67
    by_cases h76 : d = 76
    ·subst h76
     obtain ⟨x, hx⟩ : ∃ x, brS vF l0_6 = x := ⟨_, rfl⟩
     have hxs : x.size ≤ 8796093022000 := by rw [← hx]; have := brS_size l0_6 HLL.out HLI.out; omega
     obtain ⟨g1, g2⟩ := H2A.out x hxs
     have HX := zm hx
     clear hx
     have g1a := eq_true g1
     have g1b := decide_eq_true g1
     have g1c : (9223372036854775807 < 1 + x.size) = False := eq_false (Nat.not_lt.2 g1)
     have g2a := eq_true g2
     have g2b := decide_eq_true g2
     have g2c : (9223372036854775807 < acc.size + (1 + x.size)) = False := eq_false (Nat.not_lt.2 g2)
     go_wp2_with (first | (go_at_call 30; (with_reducible refine (br_call A0_6 c0_6 l0_6 _ (Kd.C_below HR.out HS.out.bel) HCC.out HLL.out HLI.out (HG.out.on HS.out.bel)).mono ?_); rintro e W3 ⟨rfl, hB3⟩; rw [HX.out]; refine Aside0.out ?_))
     refine ⟨?_⟩
     have HS3 := zm (HS.out.on hB3)
     clear hB3
     go_wp2
     refine ⟨⟨k + 1, by go_num, by omega, ?_, HS3⟩, by simp [intOf]; omega⟩
     rw [HN1.out, ← HX.out]
     unfold stepS
     rw [if_neg (by decide), if_neg (by decide), if_neg (by decide), if_neg (by decide), if_neg (by decide), if_pos rfl]; rfl
    have e76 : ((d.toNat : Int) == 76) = false := byte_ne d 76 h76
    have HN76 := zm h76
    clear h76
    have g3 : acc.size + 6 ≤ 9223372036854775807 := by have := HSZ.out; omega
    have g3a := eq_true g3
    have g3b := decide_eq_true g3
    have g3c : (9223372036854775807 < acc.size + 6) = False := eq_false (Nat.not_lt.2 g3)
    cases a0_7
    ·go_wp2
     refine ⟨⟨k + 1, by go_num, by omega, ?_, HS⟩, by simp [intOf]; omega⟩
     rw [HN1.out]
     unfold stepS
     rw [if_neg HND.out, if_neg HN83.out, if_neg HOTH.out.1, if_neg HOTH.out.2.1, if_neg HOTH.out.2.2, if_neg HN76.out, if_neg (by decide)]
    ·go_wp2
     refine ⟨⟨k + 1, by go_num, by omega, ?_, HS⟩, by simp [intOf]; omega⟩
     rw [HN1.out]
     unfold stepS
     rw [if_neg HND.out, if_neg HN83.out, if_neg HOTH.out.1, if_neg HOTH.out.2.1, if_neg HOTH.out.2.2, if_neg HN76.out, if_pos rfl]; rfl
  ·have hke : k = f.size := by omega
   have hfull : f.data.toList.take k = f.data.toList := List.take_of_length_le (by rw [data_length]; omega)
   rw [hfull] at hacc ⊢
   have hge : ¬ ((k : Int) < (f.size : Int)) := by omega
   have HACC := zm hacc
   clear hfull hke hacc
   go_wp2
   go_ret
   exact ⟨rfl, HS.out.bel⟩


/-! ### show_Op: function 7 -/
def show_Op.f (a0_0 : Int) (a0_1 : Int) (a0_2 : Int) (a0_3 : Int) (a0_4 : Int) (a0_5 : ByteArray) (l0_6 : List Int) (a0_7 : Bool) : Option (ByteArray) := (show_op.f a0_0 a0_1 a0_2 a0_3 a0_4 a0_5 l0_6 a0_7).bind fun t119 => (some t119)
set_option maxHeartbeats 8000000 in
set_option maxRecDepth 100000 in
theorem show_Op.calls (a0_0 : Int) (a0_1 : Int) (a0_2 : Int) (a0_3 : Int) (a0_4 : Int) (a0_5 : ByteArray) (A0_6 : Option Addr) (c0_6 : Nat) (l0_6 : List Int) (a0_7 : Bool) (r : ByteArray) (w : World) (hr0_6 : Kd.C (Kd.int .i64) w A0_6 l0_6.length l0_6) (hc0_6 : l0_6.length ≤ c0_6) (h : show_Op.f a0_0 a0_1 a0_2 a0_3 a0_4 a0_5 l0_6 a0_7 = some r) (hG : Door.Laid w) :
  Calls Tryd.prog 7 #[.agg #[.int .i64 a0_0, .int .i64 a0_1, .int .i64 a0_2, .int .i64 a0_3, .int .i64 a0_4, .string a0_5, .slice A0_6 l0_6.length c0_6, .bool a0_7]] w fun e w' => e = .returned (.string r) ∧ Below w.heap.size w w' := by
 have hG_ := zm hG
 clear hG
 have hu24 := Tryd.underlying24
 have HR0_6 := zm hr0_6
 have HC0_6 := zm hc0_6
 clear hr0_6 hc0_6
 have HB := zm (Below.refl w.heap.size w)
 have H : ((show_op.f a0_0 a0_1 a0_2 a0_3 a0_4 a0_5 l0_6 a0_7).bind fun t119 => (some t119)) = some r := h
 clear h
 replace H := Option.bind_eq_some_iff.mp H
 obtain ⟨t119, A20, H⟩ := H
 replace H : (some t119) = some r := H
 have A2 := zm A20
 clear A20
 obtain rfl := Option.some.inj H
 go_enter Tryd.func7, Tryd.ntmps7
 go_wp2_with (first | ((with_reducible refine gate_dst (N := 1) rfl ?_); refine box_event ?hg (N := 1) ?hd (cs := #[.int .i64 a0_0, .int .i64 a0_1, .int .i64 a0_2, .int .i64 a0_3, .int .i64 a0_4, .string a0_5, .slice A0_6 l0_6.length c0_6, .bool a0_7]) (t := 24) ?hr ?_; (case hd => rfl); (case hg => rfl); (case hr => first | (go_simp; done) | (go_simp; rfl)); intro gb118 hg w3 hbox hb; have n0_ := zm (below_step (by repeat (first | (with_reducible first | exact HB.out | apply below_alloc | apply pw_below_drewN | apply below_drew1) | exact HB.out)) hb); have n1_ := zm (hbox); have n2_ := zm ((by rw [hg]; exact (below_size (by repeat (first | (with_reducible first | exact HB.out | apply below_alloc | apply pw_below_drewN | apply below_drew1) | exact HB.out))) : w.heap.size ≤ gb118)); have n3_ := zm ((by rw [hg]; exact (below_size (by repeat (first | (with_reducible first | exact HB.out | apply below_alloc | apply pw_below_drewN | apply below_drew1) | exact HB.out))) : w.heap.size ≤ gb118)); clear HB; have HB := n0_; have BK118 := n1_; have GW118 := n2_; have GE118 := n3_; clear n0_ n1_ n2_ n3_; clear hb hbox hg; have hcz4_0 : w3.cell? ⟨gb118, 0, none⟩ = some (.int .i64 a0_0) := (blk_cell BK118.out 0).trans rfl; have hcz4_1 : w3.cell? ⟨gb118, 1, none⟩ = some (.int .i64 a0_1) := (blk_cell BK118.out 1).trans rfl; have hcz4_2 : w3.cell? ⟨gb118, 2, none⟩ = some (.int .i64 a0_2) := (blk_cell BK118.out 2).trans rfl; have hcz4_3 : w3.cell? ⟨gb118, 3, none⟩ = some (.int .i64 a0_3) := (blk_cell BK118.out 3).trans rfl; have hcz4_4 : w3.cell? ⟨gb118, 4, none⟩ = some (.int .i64 a0_4) := (blk_cell BK118.out 4).trans rfl; have hcz4_5 : w3.cell? ⟨gb118, 5, none⟩ = some (.string a0_5) := (blk_cell BK118.out 5).trans rfl; have hcz4_6 : w3.cell? ⟨gb118, 6, none⟩ = some (.slice A0_6 l0_6.length c0_6) := (blk_cell BK118.out 6).trans rfl; have hcz4_7 : w3.cell? ⟨gb118, 7, none⟩ = some (.bool a0_7) := (blk_cell BK118.out 7).trans rfl; have hfz4_0 := blk_frozen BK118.out 0; have hfz4_1 := blk_frozen BK118.out 1; have hfz4_2 := blk_frozen BK118.out 2; have hfz4_3 := blk_frozen BK118.out 3; have hfz4_4 := blk_frozen BK118.out 4; have hfz4_5 := blk_frozen BK118.out 5; have hfz4_6 := blk_frozen BK118.out 6; have hfz4_7 := blk_frozen BK118.out 7) | ((with_reducible refine gate_callee (f := 19) rfl ?_); refine goesL_ (some 4) rfl rfl Tryd.func19 (by kernel_rfl) rfl #[.agg #[.int .i64 a0_0, .int .i64 a0_1, .int .i64 a0_2, .int .i64 a0_3, .int .i64 a0_4, .string a0_5, .slice A0_6 l0_6.length c0_6, .bool a0_7]] rfl (by (try simp only [List.map_toArray, List.map_cons, List.map_nil]); first | done | rfl | (simp only [List.length_drop, List.length_take]; rfl)) ?_; (with_reducible refine (show_op.calls a0_0 a0_1 a0_2 a0_3 a0_4 a0_5 _ _ l0_6 a0_7 t119 _ ?side1 ?side2 A2.out (Door.Laid.on hG_.out (by repeat (first | (with_reducible first | exact HB.out | exact Below.refl _ _ | apply below_alloc | apply pw_below_drewN | apply below_drew1) | exact HB.out | exact Below.refl _ _)))).mono ?_); (case side1 => repeat (first | exact (Kd.C_below HR0_6.out HB.out) | (with_reducible refine Kd.C_alloc ?_ _) | (with_reducible refine Kd.C_drewN ?_ _) | (with_reducible refine Kd.C_drew ?_))); (case side2 => exact HC0_6.out); rintro e w5 ⟨rfl, hb⟩; refine ⟨_, rfl, ?_⟩; have n0_ := zm (blk_below (g := gb118) (o := .cells #[.int .i64 a0_0, .int .i64 a0_1, .int .i64 a0_2, .int .i64 a0_3, .int .i64 a0_4, .string a0_5, .slice A0_6 l0_6.length c0_6, .bool a0_7] 24 (0, 0)) (by (with_reducible repeat (first | refine blk_drewN ?_ _ | refine blk_drew ?_ | refine blk_alloc ?_ _)); exact BK118.out) hb); have n1_ := zm (below_step (by repeat (first | (with_reducible first | exact HB.out | apply below_alloc | apply pw_below_drewN | apply below_drew1 | refine below_set ?_ GE118.out) | exact HB.out)) hb); clear BK118; clear HB; have BK118 := n0_; have HB := n1_; clear n0_ n1_; (try clear hb); (try clear hb2); (try clear hk); (try clear hi)))
 go_ret
 exact ⟨by first | rfl | (simp [errW_none, errW_some] <;> rfl) | (simp [*, errW_none, errW_some] <;> rfl), by repeat (first | (with_reducible first | exact HB.out | apply below_alloc | apply pw_below_drewN | apply below_drew1 | refine below_set ?_ GE118.out) | exact HB.out)⟩

end Go.Proofs.YtojmepkhbebllaaDoor.PShowProgs
