-- written by wip/print2.py
import Derived.Test.YtojmepkhbebllaaDoorPShowTypesx0
namespace Go.Proofs.YtojmepkhbebllaaDoor.PShowTypes
open Go.RowKit Go.Proofs.YtojmepkhbebllaaDoorW.PrintWords Go.Proofs.YtojmepkhbebllaaDoorW.PrintLast Go.Proofs.YtojmepkhbebllaaDoorW.PrintMore
attribute [local go_sem] max2_int min2_int max_two min_two max_three min_three max_four min_four   -- for this text's walks alone
set_option linter.unusedVariables false
set_option linter.unusedSimpArgs false

/-! ### strconv_FormatInt: function 59 -/
theorem below_grow {B : Nat} {w W : World} (h : Below B w W) (hB : B ≤ W.heap.size) (os : Array Obj) : Below B w (Go.Sort.grow W os) :=
  h.trans ⟨rfl, rfl, rfl, by simp [Go.Sort.grow], fun k hk => by
    show (W.heap ++ os)[k]? = W.heap[k]?
    rw [Array.getElem?_append_left (by omega)]⟩
def strconv_FormatInt.f (a0 : Int) (a1 : Int) : Option ByteArray := if a1 = 10 ∧ -9223372036854775808 ≤ a0 ∧ a0 ≤ 9223372036854775807 then some ⟨(Lib.itoa a0).toArray⟩ else none
theorem strconv_FormatInt.calls (a0 : Int) (a1 : Int) (r : ByteArray) (w : World) (h : strconv_FormatInt.f a0 a1 = some r) (hG : Door.Laid w) :
    Calls Tryd.prog 59 #[.int .i64 a0, .int .i64 a1] w fun e w' => e = .returned (.string r) ∧ Below w.heap.size w w' := by
  unfold strconv_FormatInt.f at h
  split at h
  · rename_i hc
    obtain ⟨rfl, h0, h1⟩ := hc
    obtain rfl := Option.some.inj h
    refine (Tryd.strconv_FormatInt_10 a0 h0 h1 w hG.strconv_uint64pow10).mono ?_
    rintro e w' ⟨rfl, k, os, rfl⟩
    exact ⟨rfl, below_grow (pw_below_drewN (Below.refl _ w) k) (Nat.le_refl _) os⟩
  · cases h

/-! ### text_Digits: function 40 -/
def text_Digits.f (a0 : Int) : Option (ByteArray) := (strconv_FormatInt.f a0 10).bind fun t101 => (some t101)
set_option maxHeartbeats 8000000 in
set_option maxRecDepth 100000 in
theorem text_Digits.calls (a0 : Int) (r : ByteArray) (w : World) (h : text_Digits.f a0 = some r) (hG : Door.Laid w) :
    Calls Tryd.prog 40 #[.int .i64 a0] w fun e w' => e = .returned (.string r) ∧ Below w.heap.size w w' := by
  have hG_ := Aside0.mk hG
  clear hG
  have HB := Aside0.mk (Below.refl w.heap.size w)
  have H : ((strconv_FormatInt.f a0 10).bind fun t101 => (some t101)) = some r := h
  clear h
  replace H := Option.bind_eq_some_iff.mp H
  obtain ⟨t101, A20, H⟩ := H
  replace H : (some t101) = some r := H
  have A2 := Aside0.mk A20
  clear A20
  obtain rfl := Option.some.inj H
  go_enter Tryd.func40, Tryd.ntmps40
  go_wp2_with (first | ((with_reducible refine gate_callee (f := 59) rfl ?_); refine goesL_ (some 4) rfl rfl Tryd.func59 (by kernel_rfl) rfl #[.int .i64 a0, .int .i64 10] rfl (by (try simp only [List.map_toArray, List.map_cons, List.map_nil]); first | done | rfl | (simp only [List.length_drop, List.length_take]; rfl)) ?_; (with_reducible refine (strconv_FormatInt.calls a0 10 t101 _ A2.out (Door.Laid.on hG_.out (by repeat (first | (with_reducible first | exact HB.out | exact Below.refl _ _ | apply below_alloc | apply pw_below_drewN | apply below_drew1) | exact HB.out | exact Below.refl _ _)))).mono ?_); rintro e w3 ⟨rfl, hb⟩; refine ⟨_, rfl, ?_⟩; have n0_ := Aside0.mk (below_step (by repeat (first | (with_reducible first | exact HB.out | apply below_alloc | apply pw_below_drewN | apply below_drew1) | exact HB.out)) hb); clear HB; have HB := n0_; clear n0_; (try clear hb); (try clear hb2); (try clear hk); (try clear hi)))
  go_ret
  exact ⟨by first | rfl | (simp [errW_none, errW_some] <;> rfl) | (simp [*, errW_none, errW_some] <;> rfl), by repeat (first | (with_reducible first | exact HB.out | apply below_alloc | apply pw_below_drewN | apply below_drew1) | exact HB.out)⟩

/-! ### show_digits: function 32 -/
def show_digits.f (a0 : Int) : Option (ByteArray) := (text_Digits.f a0).bind fun t102 => (some t102)
set_option maxHeartbeats 8000000 in
set_option maxRecDepth 100000 in
theorem show_digits.calls (a0 : Int) (r : ByteArray) (w : World) (h : show_digits.f a0 = some r) (hG : Door.Laid w) :
    Calls Tryd.prog 32 #[.int .i64 a0] w fun e w' => e = .returned (.string r) ∧ Below w.heap.size w w' := by
  have hG_ := Aside0.mk hG
  clear hG
  have HB := Aside0.mk (Below.refl w.heap.size w)
  have H : ((text_Digits.f a0).bind fun t102 => (some t102)) = some r := h
  clear h
  replace H := Option.bind_eq_some_iff.mp H
  obtain ⟨t102, A20, H⟩ := H
  replace H : (some t102) = some r := H
  have A2 := Aside0.mk A20
  clear A20
  obtain rfl := Option.some.inj H
  go_enter Tryd.func32, Tryd.ntmps32
  go_wp2_with (first | ((with_reducible refine gate_callee (f := 40) rfl ?_); refine goesL_ (some 4) rfl rfl Tryd.func40 (by kernel_rfl) rfl #[.int .i64 a0] rfl (by (try simp only [List.map_toArray, List.map_cons, List.map_nil]); first | done | rfl | (simp only [List.length_drop, List.length_take]; rfl)) ?_; (with_reducible refine (text_Digits.calls a0 t102 _ A2.out (Door.Laid.on hG_.out (by repeat (first | (with_reducible first | exact HB.out | exact Below.refl _ _ | apply below_alloc | apply pw_below_drewN | apply below_drew1) | exact HB.out | exact Below.refl _ _)))).mono ?_); rintro e w3 ⟨rfl, hb⟩; refine ⟨_, rfl, ?_⟩; have n0_ := Aside0.mk (below_step (by repeat (first | (with_reducible first | exact HB.out | apply below_alloc | apply pw_below_drewN | apply below_drew1) | exact HB.out)) hb); clear HB; have HB := n0_; clear n0_; (try clear hb); (try clear hb2); (try clear hk); (try clear hi)))
  go_ret
  exact ⟨by first | rfl | (simp [errW_none, errW_some] <;> rfl) | (simp [*, errW_none, errW_some] <;> rfl), by repeat (first | (with_reducible first | exact HB.out | apply below_alloc | apply pw_below_drewN | apply below_drew1) | exact HB.out)⟩

/-! ### show_name: function 38 -/
def show_name.f (l0 : List ByteArray) (a1 : Int) : Option (ByteArray) := if a1 < 0 then (some (⟨#[63]⟩ : ByteArray)) else (if a1 ≥ (l0.length : Int) then (some (⟨#[63]⟩ : ByteArray)) else (if 0 ≤ a1 then (if a1 < (l0.length : Int) then (some (rdOf ByteArray.empty l0 a1)) else (none)) else (none)))
set_option maxHeartbeats 8000000 in
set_option maxRecDepth 100000 in
theorem show_name.calls (A0 : Option Addr) (c0 : Nat) (l0 : List ByteArray) (a1 : Int) (r : ByteArray) (w : World) (hr0 : Kd.C Kd.string w A0 l0.length l0) (hc0 : l0.length ≤ c0) (h : show_name.f l0 a1 = some r) :
    Calls Tryd.prog 38 #[.slice A0 l0.length c0, .int .i64 a1] w fun e w' => e = .returned (.string r) ∧ Drawn0 w w' := by
  have HR0 := Aside0.mk hr0
  have HC0 := Aside0.mk hc0
  clear hr0 hc0
  have H : (if a1 < 0 then (some (⟨#[63]⟩ : ByteArray)) else (if a1 ≥ (l0.length : Int) then (some (⟨#[63]⟩ : ByteArray)) else (if 0 ≤ a1 then (if a1 < (l0.length : Int) then (some (rdOf ByteArray.empty l0 a1)) else (none)) else (none)))) = some r := h
  clear h
  by_cases c3 : a1 < 0
  · rw [if_pos c3] at H
    have c3b0 : decide (a1 < 0) = true := decide_eq_true c3
    clear c3
    obtain rfl := Option.some.inj H
    go_enter Tryd.func38, Tryd.ntmps38
    go_wp2
    go_ret
    exact ⟨by first | rfl | (simp; done) | (simp [*]; done), by repeat (first | exact Drawn0.refl _ | apply Drawn0.step)⟩
  · rw [if_neg c3] at H
    have c3b0 : decide (a1 < 0) = false := decide_eq_false c3
    clear c3
    by_cases c4 : a1 ≥ (l0.length : Int)
    · rw [if_pos c4] at H
      have c4b0 : decide ((l0.length : Int) ≤ a1) = true := decide_eq_true c4
      clear c4
      obtain rfl := Option.some.inj H
      go_enter Tryd.func38, Tryd.ntmps38
      go_wp2
      go_ret
      exact ⟨by first | rfl | (simp; done) | (simp [*]; done), by repeat (first | exact Drawn0.refl _ | apply Drawn0.step)⟩
    · rw [if_neg c4] at H
      have c4b0 : decide ((l0.length : Int) ≤ a1) = false := decide_eq_false c4
      clear c4
      by_cases c5 : 0 ≤ a1
      · rw [if_pos c5] at H
        have c5b0 : decide (0 ≤ a1) = true := decide_eq_true c5
        clear c5
        by_cases c6 : a1 < (l0.length : Int)
        · rw [if_pos c6] at H
          have c6b0 : decide (a1 < (l0.length : Int)) = true := decide_eq_true c6
          clear c6
          obtain rfl := Option.some.inj H
          have p103 : 0 ≤ (a1 : Int) := of_decide_eq_true (by first | (with_reducible assumption) | assumption)
          have q103 : a1 < (l0.length : Int) := of_decide_eq_true (by first | (with_reducible assumption) | assumption)
          obtain ⟨ad103, e103, hx103_0⟩ := Kd.at_string HR0.out a1 p103 q103
          cases e103
          replace p103 := eq_true p103
          replace q103 := eq_true q103
          go_enter Tryd.func38, Tryd.ntmps38
          go_wp2
          go_ret
          exact ⟨by first | rfl | (simp; done) | (simp [*]; done), by repeat (first | exact Drawn0.refl _ | apply Drawn0.step)⟩
        · rw [if_neg c6] at H
          exact absurd H (by simp)
      · rw [if_neg c5] at H
        exact absurd H (by simp)

/-! ### kind_fieldsOf: function 58 -/
def fieldsL (k : Int) : ByteArray := if 0 ≤ k ∧ k < 26 then Door.kind_fields_tab.getD k.toNat ByteArray.empty else ByteArray.empty
def kind_fieldsOf.f (a0 : Int) : Option ByteArray := some (fieldsL a0)
set_option maxRecDepth 100000 in
theorem fieldsOf_same (a0 : Int) (w : World) (hG : Door.Laid w) :
    Calls Tryd.prog 58 #[.int .i64 a0] w fun e w' => e = .returned (.string (fieldsL a0)) ∧ w' = w := by
  by_cases h0 : a0 < 0
  · have e : fieldsL a0 = ByteArray.empty := by unfold fieldsL; rw [if_neg (by omega)]
    have E := Aside0.mk e
    clear e
    go_enter Tryd.func58, Tryd.ntmps58
    go_wp2
    go_ret
    exact ⟨by rw [E.out]; rfl, rfl⟩
  · by_cases h1 : a0 < 26
    · obtain ⟨n, rfl⟩ := Int.eq_ofNat_of_zero_le (show 0 ≤ a0 by omega)
      have e : fieldsL (n : Int) = Door.kind_fields_tab.getD n ByteArray.empty := by unfold fieldsL; rw [if_pos (by omega)]; rfl
      have hc := hG.kind_fields_at n (by omega)
      obtain ⟨s, hs⟩ : ∃ s, Door.kind_fields_tab.getD n ByteArray.empty = s := ⟨_, rfl⟩
      rw [hs] at hc e
      have E := Aside0.mk e
      clear hs
      have h2 : ¬ (n : Int) ≥ 26 := by omega
      clear e hG
      go_enter Tryd.func58, Tryd.ntmps58
      go_wp2
      go_ret
      exact ⟨by rw [E.out]; rfl, rfl⟩
    · have e : fieldsL a0 = ByteArray.empty := by unfold fieldsL; rw [if_neg (by omega)]
      have E := Aside0.mk e
      have h2 : a0 ≥ 26 := by omega
      clear e hG
      go_enter Tryd.func58, Tryd.ntmps58
      go_wp2
      go_ret
      exact ⟨by rw [E.out]; rfl, rfl⟩
theorem kind_fieldsOf.calls (a0 : Int) (r : ByteArray) (w : World) (h : kind_fieldsOf.f a0 = some r) (hG : Door.Laid w) :
    Calls Tryd.prog 58 #[.int .i64 a0] w fun e w' => e = .returned (.string r) ∧ Drawn0 w w' :=
  (fieldsOf_same a0 w hG).mono fun e w' h' => ⟨by rw [h'.1]; exact congrArg (fun x => Ending.returned (.string x)) (Option.some.inj h), by rw [h'.2]; exact Drawn0.refl w⟩

/-! ### kind_Fields: function 39 -/
def kind_Fields.f (a0 : Int) : Option (ByteArray) := (kind_fieldsOf.f a0).bind fun t104 => (some t104)
set_option maxHeartbeats 8000000 in
set_option maxRecDepth 100000 in
theorem kind_Fields.calls (a0 : Int) (r : ByteArray) (w : World) (h : kind_Fields.f a0 = some r) (hG : Door.Laid w) :
    Calls Tryd.prog 39 #[.int .i64 a0] w fun e w' => e = .returned (.string r) ∧ Drawn0 w w' := by
  have hG_ := Aside0.mk hG
  clear hG
  have H : ((kind_fieldsOf.f a0).bind fun t104 => (some t104)) = some r := h
  clear h
  replace H := Option.bind_eq_some_iff.mp H
  obtain ⟨t104, A20, H⟩ := H
  replace H : (some t104) = some r := H
  have A2 := Aside0.mk A20
  clear A20
  obtain rfl := Option.some.inj H
  go_enter Tryd.func39, Tryd.ntmps39
  go_wp2_with (first | ((with_reducible refine gate_callee (f := 58) rfl ?_); refine goesL_ (some 4) rfl rfl Tryd.func58 (by kernel_rfl) rfl #[.int .i64 a0] rfl (by (try simp only [List.map_toArray, List.map_cons, List.map_nil]); first | done | rfl | (simp only [List.length_drop, List.length_take]; rfl)) ?_; (with_reducible refine (kind_fieldsOf.calls a0 t104 _ A2.out (Door.Laid.on hG_.out (by repeat (first | (with_reducible first | exact HB.out | exact Below.refl _ _ | apply below_alloc | apply pw_below_drewN | apply below_drew1) | exact HB.out | exact Below.refl _ _)))).mono ?_); rintro e w' ⟨rfl, ⟨nd, rfl⟩⟩; refine ⟨_, rfl, ?_⟩))
  go_ret
  exact ⟨by first | rfl | (simp; done) | (simp [*]; done), by repeat (first | exact Drawn0.refl _ | apply Drawn0.step)⟩

/-! ### show_value: function 42 -/
def show_value.f (a0 : Int) : Option (ByteArray) := (show_digits.f a0).bind fun t105 => (if 1 + t105.size ≤ 9223372036854775807 then (some ((⟨#[118]⟩ : ByteArray) ++ t105)) else (none))
set_option maxHeartbeats 8000000 in
set_option maxRecDepth 100000 in
theorem show_value.calls (a0 : Int) (r : ByteArray) (w : World) (h : show_value.f a0 = some r) (hG : Door.Laid w) :
    Calls Tryd.prog 42 #[.int .i64 a0] w fun e w' => e = .returned (.string r) ∧ Below w.heap.size w w' := by
  have hG_ := Aside0.mk hG
  clear hG
  have HB := Aside0.mk (Below.refl w.heap.size w)
  have H : ((show_digits.f a0).bind fun t105 => (if 1 + t105.size ≤ 9223372036854775807 then (some ((⟨#[118]⟩ : ByteArray) ++ t105)) else (none))) = some r := h
  clear h
  replace H := Option.bind_eq_some_iff.mp H
  obtain ⟨t105, A20, H⟩ := H
  replace H : (if 1 + t105.size ≤ 9223372036854775807 then (some ((⟨#[118]⟩ : ByteArray) ++ t105)) else (none)) = some r := H
  have A2 := Aside0.mk A20
  clear A20
  by_cases c3 : 1 + t105.size ≤ 9223372036854775807
  · rw [if_pos c3] at H
    have c3b0 := eq_true c3
    have c3b1 : decide (1 + t105.size ≤ 9223372036854775807) = true := decide_eq_true c3
    try have c3b2 : (9223372036854775807 < 1 + t105.size) = False := eq_false (Nat.not_lt.2 c3)
    obtain rfl := Option.some.inj H
    go_enter Tryd.func42, Tryd.ntmps42
    go_wp2_with (first | ((with_reducible refine gate_callee (f := 32) rfl ?_); refine goesL_ (some 4) rfl rfl Tryd.func32 (by kernel_rfl) rfl #[.int .i64 a0] rfl (by (try simp only [List.map_toArray, List.map_cons, List.map_nil]); first | done | rfl | (simp only [List.length_drop, List.length_take]; rfl)) ?_; (with_reducible refine (show_digits.calls a0 t105 _ A2.out (Door.Laid.on hG_.out (by repeat (first | (with_reducible first | exact HB.out | exact Below.refl _ _ | apply below_alloc | apply pw_below_drewN | apply below_drew1) | exact HB.out | exact Below.refl _ _)))).mono ?_); rintro e w4 ⟨rfl, hb⟩; refine ⟨_, rfl, ?_⟩; have n0_ := Aside0.mk (below_step (by repeat (first | (with_reducible first | exact HB.out | apply below_alloc | apply pw_below_drewN | apply below_drew1) | exact HB.out)) hb); clear HB; have HB := n0_; clear n0_; (try clear hb); (try clear hb2); (try clear hk); (try clear hi)))
    go_ret
    exact ⟨by first | rfl | (simp [errW_none, errW_some] <;> rfl) | (simp [*, errW_none, errW_some] <;> rfl), by repeat (first | (with_reducible first | exact HB.out | apply below_alloc | apply pw_below_drewN | apply below_drew1) | exact HB.out)⟩
  · rw [if_neg c3] at H
    exact absurd H (by simp)

/-! ### show_op: function 19 -/
set_option linter.unusedVariables false
set_option linter.unusedSimpArgs false
def shD (n : Int) : ByteArray := ⟨(Lib.itoa n).toArray⟩
theorem dd_len : ∀ (f u : Nat), u < 10 ^ (f + 1) → (Lib.decDigits u).length ≤ f + 1 := by
  intro f
  induction f with
  | zero => intro u hu; rw [Lib.decDigits, dif_pos (by omega)]; simp
  | succ f ih =>
    intro u hu
    by_cases h : u < 10
    · rw [Lib.decDigits, dif_pos h]; simp
    · rw [Lib.decDigits, dif_neg h, List.length_append, List.length_singleton]
      have := ih (u / 10) (by rw [Nat.div_lt_iff_lt_mul (by decide), ← Nat.pow_succ]; exact hu)
      omega
def i64 (n : Int) : Prop := -9223372036854775808 ≤ n ∧ n ≤ 9223372036854775807
theorem shD_size (n : Int) (h : i64 n) : (shD n).size ≤ 30 := by
  obtain ⟨h1, h2⟩ := h
  have p20 : (10 : Nat) ^ (19 + 1) = 100000000000000000000 := by decide
  show (Lib.itoa n).toArray.size ≤ 30
  rw [List.size_toArray]
  unfold Lib.itoa
  split
  · have := dd_len 19 n.natAbs (by rw [p20]; omega)
    rw [List.length_cons]; omega
  · have := dd_len 19 n.toNat (by rw [p20]; omega)
    omega
theorem digits_f (n : Int) (h : i64 n) : text_Digits.f n = some (shD n) := by
  unfold text_Digits.f strconv_FormatInt.f
  rw [if_pos ⟨rfl, h.1, h.2⟩]; rfl
def vS : ByteArray := ⟨#[118]⟩
def sp : ByteArray := ⟨#[32]⟩
theorem value_f (n : Int) (h : i64 n) : show_value.f n = some (vS ++ shD n) := by
  unfold show_value.f show_digits.f
  have := shD_size n h
  rw [digits_f n h, Option.bind_some, Option.bind_some, if_pos (by omega)]; rfl
def nameS (l : List ByteArray) (n : Int) : ByteArray := if n < 0 then ⟨#[63]⟩ else if n ≥ (l.length : Int) then ⟨#[63]⟩ else rdOf ByteArray.empty l n
theorem name_f (l : List ByteArray) (n : Int) : show_name.f l n = some (nameS l n) := by
  unfold show_name.f nameS
  by_cases h1 : n < 0
  · rw [if_pos h1, if_pos h1]
  · by_cases h2 : n ≥ (l.length : Int)
    · rw [if_neg h1, if_neg h1, if_pos h2, if_pos h2]
    · rw [if_neg h1, if_neg h1, if_neg h2, if_neg h2, if_pos (by omega), if_pos (by omega)]
theorem nameS_size (l : List ByteArray) (n : Int) (h : ∀ x ∈ l, x.size ≤ 20) : (nameS l n).size ≤ 20 := by
  unfold nameS
  split
  · decide
  · split
    · decide
    · rename_i h1 h2
      unfold rdOf
      rw [List.getD_eq_getElem?_getD, List.getElem?_eq_getElem (by omega)]
      exact h _ (List.getElem_mem _)
theorem steps_size : ∀ x ∈ Door.show_steps_tab, x.size ≤ 20 := by decide +kernel
theorem signs_size : ∀ x ∈ Door.show_signs_tab, x.size ≤ 20 := by decide +kernel
theorem steps_row (X : World) (hG : Door.Laid X) : Kd.C Kd.string X (some ⟨0, 0, none⟩) 26 Door.show_steps_tab :=
  Kd.C_of_reads (enc := Value.string) (d := ByteArray.empty) (h1 := fun _ => rfl) ⟨by kernel_rfl, by decide, fun _ => ⟨_, rfl, fun j hj => by rw [add_plain]; exact hG.show_steps_at j hj⟩⟩
theorem signs_row (X : World) (hG : Door.Laid X) : Kd.C Kd.string X (some ⟨1, 0, none⟩) 14 Door.show_signs_tab :=
  Kd.C_of_reads (enc := Value.string) (d := ByteArray.empty) (h1 := fun _ => rfl) ⟨by kernel_rfl, by decide, fun _ => ⟨_, rfl, fun j hj => by rw [add_plain]; exact hG.show_signs_at j hj⟩⟩
theorem steps_call (n : Int) (X : World) (hG : Door.Laid X) : Calls Tryd.prog 38 #[.slice (some ⟨0, 0, none⟩) 26 26, .int .i64 n] X fun e w' => e = .returned (.string (nameS Door.show_steps_tab n)) ∧ Drawn0 X w' :=
  show_name.calls (some ⟨0, 0, none⟩) 26 Door.show_steps_tab n _ X (steps_row X hG) (Nat.le_refl _) (name_f _ _)
theorem signs_call (n : Int) (X : World) (hG : Door.Laid X) : Calls Tryd.prog 38 #[.slice (some ⟨1, 0, none⟩) 14 14, .int .i64 n] X fun e w' => e = .returned (.string (nameS Door.show_signs_tab n)) ∧ Drawn0 X w' :=
  show_name.calls (some ⟨1, 0, none⟩) 14 Door.show_signs_tab n _ X (signs_row X hG) (Nat.le_refl _) (name_f _ _)
theorem value_call (n : Int) (h : i64 n) (X : World) (hG : Door.Laid X) : Calls Tryd.prog 42 #[.int .i64 n] X fun e w' => e = .returned (.string (vS ++ shD n)) ∧ Below X.heap.size X w' := show_value.calls n _ X (value_f n h) hG
theorem digits_call (n : Int) (h : i64 n) (X : World) (hG : Door.Laid X) : Calls Tryd.prog 40 #[.int .i64 n] X fun e w' => e = .returned (.string (shD n)) ∧ Below X.heap.size X w' := text_Digits.calls n _ X (digits_f n h) hG
def stackS : ByteArray := ⟨#[32, 115, 116, 97, 99, 107]⟩
def stepS (K a b c n : Int) (st : Bool) (acc : ByteArray) (d : UInt8) : ByteArray :=
  if d = 78 then (if K = 3 then acc ++ (sp ++ nameS Door.show_signs_tab n) else acc ++ (sp ++ shD n))
  else if d = 65 then acc ++ (sp ++ (vS ++ shD a)) else if d = 66 then acc ++ (sp ++ (vS ++ shD b)) else if d = 67 then acc ++ (sp ++ (vS ++ shD c))
  else if st = true then acc ++ stackS else acc
def outS (K a b c n : Int) (st : Bool) (p : List UInt8) : ByteArray := p.foldl (stepS K a b c n st) (nameS Door.show_steps_tab K)
theorem size_app (x y : ByteArray) : (x ++ y).size = x.size + y.size := by simp
theorem outS_size (K a b c n : Int) (st : Bool) (ha : i64 a) (hb : i64 b) (hc : i64 c) (hn : i64 n) (p : List UInt8) : (outS K a b c n st p).size ≤ 20 + 100 * p.length := by
  have key : ∀ (p : List UInt8) (x : ByteArray), (p.foldl (stepS K a b c n st) x).size ≤ x.size + 100 * p.length := by
    intro p
    induction p with
    | nil => intro x; simp
    | cons d p ih =>
      intro x
      have h1 := ih (stepS K a b c n st x d)
      have h2 : (stepS K a b c n st x d).size ≤ x.size + 100 := by
        have e1 := shD_size a ha
        have e2 := shD_size b hb
        have e3 := shD_size c hc
        have e4 := shD_size n hn
        have e5 := nameS_size Door.show_signs_tab n signs_size
        have e6 : sp.size = 1 := rfl
        have e7 : vS.size = 1 := rfl
        have e8 : stackS.size = 6 := rfl
        unfold stepS
        repeat' split
        all_goals (try simp only [size_app])
        all_goals omega
      rw [List.foldl_cons, List.length_cons]
      omega
  have := key p (nameS Door.show_steps_tab K)
  have := nameS_size Door.show_steps_tab K steps_size
  unfold outS
  omega
/-- How things lie when the bytes p are through. -/
structure OpSt (w : World) (K a b c n : Int) (s : ByteArray) (A : Option Addr) (cp : Nat) (l : List Int) (st : Bool) (B : Nat) (f : ByteArray) (W : World) : Prop where
  bel : Below w.heap.size w W
  o : W.heap[w.heap.size]? = some (.cells #[.int .i64 K, .int .i64 a, .int .i64 b, .int .i64 c, .int .i64 n, .string s, .slice A l.length cp, .bool st] 24 (0, 0))
  by_ : ReadsInt W .u8 (some ⟨B, 0, none⟩) f.size (bytesOf f)
  sz : w.heap.size < W.heap.size
theorem OpSt.on {w : World} {K a b c n : Int} {s : ByteArray} {A : Option Addr} {cp : Nat} {l : List Int} {st : Bool} {B : Nat} {f : ByteArray} {W W' : World} (h : OpSt w K a b c n s A cp l st B f W) (hb : Below W.heap.size W W') : OpSt w K a b c n s A cp l st B f W' :=
  ⟨below_step h.bel hb, blk_below h.o hb, ⟨h.by_.1, h.by_.2.1, fun hn => by
    obtain ⟨ad, e, hc⟩ := h.by_.2.2 hn
    exact ⟨ad, e, fun i hi => (hb.cell (World.block_lt_of_cell? _ _ (hc i hi))).trans (hc i hi)⟩⟩, Nat.lt_of_lt_of_le h.sz hb.size⟩
def noSL (f : ByteArray) : Prop := ∀ d ∈ f.data.toList, d ≠ 83 ∧ d ≠ 76
instance (f : ByteArray) : Decidable (noSL f) := by unfold noSL; exact inferInstance
instance (n : Int) : Decidable (i64 n) := by unfold i64; exact inferInstance
def show_op.f (a0_0 a0_1 a0_2 a0_3 a0_4 : Int) (a0_5 : ByteArray) (l0_6 : List Int) (a0_7 : Bool) : Option ByteArray :=
  if noSL (fieldsL a0_0) ∧ i64 a0_1 ∧ i64 a0_2 ∧ i64 a0_3 ∧ i64 a0_4 then some (outS a0_0 a0_1 a0_2 a0_3 a0_4 a0_7 (fieldsL a0_0).data.toList) else none
theorem byte_ne (d e : UInt8) (h : ¬ d = e) : ((d.toNat : Int) == (e.toNat : Int)) = false := beq_eq_false_iff_ne.2 (fun h' => h (UInt8.toNat_inj.1 (by omega)))
theorem Fields_f (K : Int) : kind_Fields.f K = some (fieldsL K) := by unfold kind_Fields.f kind_fieldsOf.f; rfl
set_option maxHeartbeats 4000000 in
set_option maxRecDepth 100000 in
theorem show_op.calls (a0_0 : Int) (a0_1 : Int) (a0_2 : Int) (a0_3 : Int) (a0_4 : Int) (a0_5 : ByteArray) (A0_6 : Option Addr) (c0_6 : Nat) (l0_6 : List Int) (a0_7 : Bool) (r : ByteArray) (w : World) (hr0_6 : Kd.C (Kd.int .i64) w A0_6 l0_6.length l0_6) (hc0_6 : l0_6.length ≤ c0_6) (h : show_op.f a0_0 a0_1 a0_2 a0_3 a0_4 a0_5 l0_6 a0_7 = some r) (hG : Door.Laid w) :
    Calls Tryd.prog 19 #[.agg #[.int .i64 a0_0, .int .i64 a0_1, .int .i64 a0_2, .int .i64 a0_3, .int .i64 a0_4, .string a0_5, .slice A0_6 l0_6.length c0_6, .bool a0_7]] w fun e w' => e = .returned (.string r) ∧ Below w.heap.size w w' := by
  unfold show_op.f at h
  split at h
  rotate_left
  · cases h
  rename_i hok
  obtain ⟨hsl, ha, hb, hc, hn⟩ := hok
  obtain rfl := Option.some.inj h
  have HA := Aside0.mk ha
  have HB := Aside0.mk hb
  have HC := Aside0.mk hc
  have HN := Aside0.mk hn
  have HG := Aside0.mk hG
  obtain ⟨f, hf⟩ : ∃ f, fieldsL a0_0 = f := ⟨_, rfl⟩
  rw [hf] at hsl ⊢
  have hfs : f.size ≤ 8 := by
    rw [← hf]; unfold fieldsL; split
    · rename_i h
      have : ∀ n : Fin 26, (Door.kind_fields_tab.getD n.val ByteArray.empty).size ≤ 8 := by decide +kernel
      exact this ⟨a0_0.toNat, by omega⟩
    · decide
  have HSL := Aside0.mk hsl
  have HF := Aside0.mk hf
  have HOUT := Aside0.mk (fun p => outS_size a0_0 a0_1 a0_2 a0_3 a0_4 a0_7 ha hb hc hn p)
  clear h hsl hf ha hb hc hn hG hr0_6 hc0_6
  obtain ⟨W1, hW1⟩ : ∃ W1, w.alloc (.cells #[.int .i64 a0_0, .int .i64 a0_1, .int .i64 a0_2, .int .i64 a0_3, .int .i64 a0_4, .string a0_5, .slice A0_6 l0_6.length c0_6, .bool a0_7] 24) = W1 := ⟨_, rfl⟩
  have hb1 : Below w.heap.size w W1 := by rw [← hW1]; exact below_alloc (Below.refl _ _) _
  have hB1 : W1.heap[w.heap.size]? = some (.cells #[.int .i64 a0_0, .int .i64 a0_1, .int .i64 a0_2, .int .i64 a0_3, .int .i64 a0_4, .string a0_5, .slice A0_6 l0_6.length c0_6, .bool a0_7] 24 (0, 0)) := by rw [← hW1]; exact heap_alloc_new w _
  have hs1 : W1.heap.size = w.heap.size + 1 := by rw [← hW1]; simp
  have HS1 := Aside0.mk hs1
  have HBK := Aside0.mk hB1
  have HB1 := Aside0.mk hb1
  have HG1 := Aside0.mk (HG.out.on hb1)
  have o0 : W1.cell? ⟨w.heap.size, 0, none⟩ = some (.int .i64 a0_0) := (blk_cell hB1 0).trans rfl
  clear hb1 hB1 hs1
  have kb := fun W => print_bytes (P := Tryd.prog) 9 60 5 Tryd.underlying9 Tryd.underlying60 Tryd.underlying5 f W
  go_enter Tryd.func19, Tryd.ntmps19
  go_wp2
  go_quiet ((go_at_call 38; refine Calls.quiet_of (v := .string (nameS Door.show_steps_tab a0_0)) ?_; (with_reducible refine (steps_call a0_0 _ (HG1.out.on (pw_below_drewN (Below.refl _ _) _))).mono ?_); rintro e Z2 ⟨he, ⟨hd⟩⟩; exact ⟨he, hd⟩))
  go_wp2_with (first | (go_at_call 39; (with_reducible refine (kind_Fields.calls a0_0 f _ (by rw [Fields_f, HF.out]) (HG1.out.on (pw_below_drewN (Below.refl _ _) _))).mono ?_); rintro e Z2 ⟨rfl, ⟨nd, rfl⟩⟩))
  have hst0 : OpSt w a0_0 a0_1 a0_2 a0_3 a0_4 a0_5 A0_6 c0_6 l0_6 a0_7 W1.heap.size f (Lib.bytesWorld (W1.drewN (nq + nd)) 5 f) := by
    have hold : ∀ k, k < W1.heap.size → (Lib.bytesWorld (W1.drewN (nq + nd)) 5 f).heap[k]? = W1.heap[k]? := fun k hk => Lib.bytesWorld_at_old (W1.drewN (nq + nd)) _ f k hk
    have hs1 := HS1.out
    refine ⟨?_, ?_, ?_, ?_⟩
    · exact bytes_below (pw_below_drewN HB1.out _) (by show w.heap.size ≤ W1.heap.size; omega) _ _
    · rw [hold _ (by omega)]; exact HBK.out
    · exact bytes_reads (W1.drewN (nq + nd)) 5 f (by omega)
    · rw [Lib.bytesWorld_size]; show w.heap.size < W1.heap.size + 1; omega
  have HST := Aside0.mk hst0
  clear hst0 kb o0 hW1
  go_loopw [3, 15] (fun v3 v15 wr => ∃ k : Nat, v15 = .int .i64 k ∧ k ≤ f.size ∧ v3 = .string (outS a0_0 a0_1 a0_2 a0_3 a0_4 a0_7 (f.data.toList.take k)) ∧ Aside0 (OpSt w a0_0 a0_1 a0_2 a0_3 a0_4 a0_5 A0_6 c0_6 l0_6 a0_7 W1.heap.size f wr)) (fun v3 v15 _ => f.size - (intOf v15).toNat)
  case atStart => exact ⟨0, rfl, Nat.zero_le _, rfl, HST⟩
  case round =>
    obtain ⟨k, rfl, hk, rfl, HS⟩ := hrel
    clear HST
    obtain ⟨acc, hacc⟩ : ∃ acc, outS a0_0 a0_1 a0_2 a0_3 a0_4 a0_7 (f.data.toList.take k) = acc := ⟨_, rfl⟩
    by_cases hlt : k < f.size
    · have hsn : f.data.toList.take (k + 1) = f.data.toList.take k ++ [f[k]] := by
        rw [List.take_succ_eq_append_getElem (by rw [data_length]; exact hlt)]; rfl
      have hsz : acc.size ≤ 820 := by
        have := HOUT.out (f.data.toList.take k)
        rw [hacc] at this
        have h2 : (f.data.toList.take k).length ≤ 8 := by rw [List.length_take]; omega
        omega
      have hmem : f[k] ∈ f.data.toList := by
        have := List.getElem_mem (l := f.data.toList) (n := k) (by rw [data_length]; exact hlt)
        exact this
      have hd2 := HSL.out _ hmem
      have hnext : ∀ d, f[k] = d → outS a0_0 a0_1 a0_2 a0_3 a0_4 a0_7 (f.data.toList.take (k + 1)) = stepS a0_0 a0_1 a0_2 a0_3 a0_4 a0_7 acc d := by
        intro d hd
        rw [hsn, hd, ← hacc]
        unfold outS
        rw [List.foldl_append]; rfl
      have HACC := Aside0.mk hacc
      rw [hacc]
      have hby := HS.out.by_
      have q0 : wr.cell? ⟨W1.heap.size, k, none⟩ = some (.int .u8 f[k].toNat) := by
        obtain ⟨ad, e, hc⟩ := hby.2.2 (by omega)
        cases e
        have := hc k hlt
        rw [add_plain] at this
        rw [this]
        have hk' : k < f.data.toList.length := by rw [data_length]; exact hlt
        simp [bytesOf, List.getD_eq_getElem?_getD, List.getElem?_eq_getElem hk']
        rfl
      have o0 := blk_cell HS.out.o 0
      have o1 := blk_cell HS.out.o 1
      have o2 := blk_cell HS.out.o 2
      have o3 := blk_cell HS.out.o 3
      have o4 := blk_cell HS.out.o 4
      have o7 := blk_cell HS.out.o 7
      have hb0 : 0 ≤ (k : Int) := by omega
      obtain ⟨d, hd⟩ : ∃ d, f[k] = d := ⟨_, rfl⟩
      have HN1 := Aside0.mk (hnext d hd)
      rw [hd] at q0 hd2
      obtain ⟨h83, h76⟩ := hd2
      have HSZ := Aside0.mk hsz
      clear hd hsn hby hmem hnext hacc
      have e83 : ((d.toNat : Int) == 83) = false := byte_ne d 83 h83
      have e76 : ((d.toNat : Int) == 76) = false := byte_ne d 76 h76
      clear h83 h76 hsz
      have H2 : ∀ x : ByteArray, x.size ≤ 60 → 1 + x.size ≤ 9223372036854775807 ∧ acc.size + (1 + x.size) ≤ 9223372036854775807 := fun x hx => by have := HSZ.out; omega
      have H2A := Aside0.mk H2
      clear H2
      by_cases h78 : d = 78
      · subst h78
        by_cases hK : a0_0 = 3
        · subst hK
          obtain ⟨x, hx⟩ : ∃ x, nameS Door.show_signs_tab a0_4 = x := ⟨_, rfl⟩
          have hxs : x.size ≤ 60 := by rw [← hx]; have := nameS_size Door.show_signs_tab a0_4 signs_size; omega
          obtain ⟨g1, g2⟩ := H2A.out x hxs
          have HX := Aside0.mk hx
          clear hx
          have g1a := eq_true g1
          have g1b := decide_eq_true g1
          have g1c : (9223372036854775807 < 1 + x.size) = False := eq_false (Nat.not_lt.2 g1)
          have g2a := eq_true g2
          have g2b := decide_eq_true g2
          have g2c : (9223372036854775807 < acc.size + (1 + x.size)) = False := eq_false (Nat.not_lt.2 g2)
          go_wp2
          go_quiet ((go_at_call 38; refine Calls.quiet_of (v := .string x) ?_; (with_reducible refine (signs_call a0_4 _ (HG.out.on (pw_below_drewN HS.out.bel _))).mono ?_); rintro e Z2 ⟨he, ⟨hd⟩⟩; exact ⟨he.trans (by rw [HX.out]), hd⟩))
          go_wp2
          refine ⟨⟨k + 1, by go_num, by omega, ?_, ⟨HS.out.on (pw_below_drewN (Below.refl _ _) _)⟩⟩, by simp [intOf]; omega⟩
          rw [HN1.out, ← HX.out]
          unfold stepS
          rw [if_pos rfl, if_pos rfl]; rfl
        · obtain ⟨x, hx⟩ : ∃ x, shD a0_4 = x := ⟨_, rfl⟩
          have hxs : x.size ≤ 60 := by rw [← hx]; have := shD_size a0_4 HN.out; omega
          obtain ⟨g1, g2⟩ := H2A.out x hxs
          have HX := Aside0.mk hx
          have HK := Aside0.mk hK
          have eK : (a0_0 == 3) = false := beq_eq_false_iff_ne.2 hK
          have eK2 : (a0_0 = 3) = False := eq_false hK
          clear hx hK
          have g1a := eq_true g1
          have g1b := decide_eq_true g1
          have g1c : (9223372036854775807 < 1 + x.size) = False := eq_false (Nat.not_lt.2 g1)
          have g2a := eq_true g2
          have g2b := decide_eq_true g2
          have g2c : (9223372036854775807 < acc.size + (1 + x.size)) = False := eq_false (Nat.not_lt.2 g2)
          go_wp2_with (first | (go_at_call 40; (with_reducible refine (digits_call a0_4 HN.out _ (HG.out.on HS.out.bel)).mono ?_); rintro e W3 ⟨rfl, hB3⟩; rw [HX.out]; refine Aside0.out ?_))
          refine ⟨?_⟩
          have HS3 := Aside0.mk (HS.out.on hB3)
          clear hB3
          go_wp2
          refine ⟨⟨k + 1, by go_num, by omega, ?_, HS3⟩, by simp [intOf]; omega⟩
          rw [HN1.out, ← HX.out]
          unfold stepS
          rw [if_pos rfl, if_neg HK.out]; rfl
      · have e78 : ((d.toNat : Int) == 78) = false := byte_ne d 78 h78
        have HND := Aside0.mk h78
        clear h78
        by_cases h65 : d = 65
        · subst h65
          obtain ⟨x, hx⟩ : ∃ x, vS ++ shD a0_1 = x := ⟨_, rfl⟩
          have hxs : x.size ≤ 60 := by rw [← hx, size_app]; have := shD_size a0_1 HA.out; have : vS.size = 1 := rfl; omega
          obtain ⟨g1, g2⟩ := H2A.out x hxs
          have HX := Aside0.mk hx
          clear hx
          have g1a := eq_true g1
          have g1b := decide_eq_true g1
          have g1c : (9223372036854775807 < 1 + x.size) = False := eq_false (Nat.not_lt.2 g1)
          have g2a := eq_true g2
          have g2b := decide_eq_true g2
          have g2c : (9223372036854775807 < acc.size + (1 + x.size)) = False := eq_false (Nat.not_lt.2 g2)
          go_wp2_with (first | (go_at_call 42; (with_reducible refine (value_call a0_1 HA.out _ (HG.out.on HS.out.bel)).mono ?_); rintro e W3 ⟨rfl, hB3⟩; rw [HX.out]; refine Aside0.out ?_))
          refine ⟨?_⟩
          have HS3 := Aside0.mk (HS.out.on hB3)
          clear hB3
          go_wp2
          refine ⟨⟨k + 1, by go_num, by omega, ?_, HS3⟩, by simp [intOf]; omega⟩
          rw [HN1.out, ← HX.out]
          unfold stepS
          rw [if_neg (by decide), if_pos rfl]; rfl
        by_cases h66 : d = 66
        · subst h66
          obtain ⟨x, hx⟩ : ∃ x, vS ++ shD a0_2 = x := ⟨_, rfl⟩
          have hxs : x.size ≤ 60 := by rw [← hx, size_app]; have := shD_size a0_2 HB.out; have : vS.size = 1 := rfl; omega
          obtain ⟨g1, g2⟩ := H2A.out x hxs
          have HX := Aside0.mk hx
          clear hx
          have g1a := eq_true g1
          have g1b := decide_eq_true g1
          have g1c : (9223372036854775807 < 1 + x.size) = False := eq_false (Nat.not_lt.2 g1)
          have g2a := eq_true g2
          have g2b := decide_eq_true g2
          have g2c : (9223372036854775807 < acc.size + (1 + x.size)) = False := eq_false (Nat.not_lt.2 g2)
          go_wp2_with (first | (go_at_call 42; (with_reducible refine (value_call a0_2 HB.out _ (HG.out.on HS.out.bel)).mono ?_); rintro e W3 ⟨rfl, hB3⟩; rw [HX.out]; refine Aside0.out ?_))
          refine ⟨?_⟩
          have HS3 := Aside0.mk (HS.out.on hB3)
          clear hB3
          go_wp2
          refine ⟨⟨k + 1, by go_num, by omega, ?_, HS3⟩, by simp [intOf]; omega⟩
          rw [HN1.out, ← HX.out]
          unfold stepS
          rw [if_neg (by decide), if_neg (by decide), if_pos rfl]; rfl
        by_cases h67 : d = 67
        · subst h67
          obtain ⟨x, hx⟩ : ∃ x, vS ++ shD a0_3 = x := ⟨_, rfl⟩
          have hxs : x.size ≤ 60 := by rw [← hx, size_app]; have := shD_size a0_3 HC.out; have : vS.size = 1 := rfl; omega
          obtain ⟨g1, g2⟩ := H2A.out x hxs
          have HX := Aside0.mk hx
          clear hx
          have g1a := eq_true g1
          have g1b := decide_eq_true g1
          have g1c : (9223372036854775807 < 1 + x.size) = False := eq_false (Nat.not_lt.2 g1)
          have g2a := eq_true g2
          have g2b := decide_eq_true g2
          have g2c : (9223372036854775807 < acc.size + (1 + x.size)) = False := eq_false (Nat.not_lt.2 g2)
          go_wp2_with (first | (go_at_call 42; (with_reducible refine (value_call a0_3 HC.out _ (HG.out.on HS.out.bel)).mono ?_); rintro e W3 ⟨rfl, hB3⟩; rw [HX.out]; refine Aside0.out ?_))
          refine ⟨?_⟩
          have HS3 := Aside0.mk (HS.out.on hB3)
          clear hB3
          go_wp2
          refine ⟨⟨k + 1, by go_num, by omega, ?_, HS3⟩, by simp [intOf]; omega⟩
          rw [HN1.out, ← HX.out]
          unfold stepS
          rw [if_neg (by decide), if_neg (by decide), if_neg (by decide), if_pos rfl]; rfl
        have e65 : ((d.toNat : Int) == 65) = false := byte_ne d 65 h65
        have e66 : ((d.toNat : Int) == 66) = false := byte_ne d 66 h66
        have e67 : ((d.toNat : Int) == 67) = false := byte_ne d 67 h67
        have HOTH := Aside0.mk (And.intro h65 (And.intro h66 h67))
        clear h65 h66 h67
        have g3 : acc.size + 6 ≤ 9223372036854775807 := by have := HSZ.out; omega
        have g3a := eq_true g3
        have g3b := decide_eq_true g3
        have g3c : (9223372036854775807 < acc.size + 6) = False := eq_false (Nat.not_lt.2 g3)
        cases a0_7
        · go_wp2
          refine ⟨⟨k + 1, by go_num, by omega, ?_, HS⟩, by simp [intOf]; omega⟩
          rw [HN1.out]
          unfold stepS
          rw [if_neg HND.out, if_neg HOTH.out.1, if_neg HOTH.out.2.1, if_neg HOTH.out.2.2, if_neg (by decide)]
        · go_wp2
          refine ⟨⟨k + 1, by go_num, by omega, ?_, HS⟩, by simp [intOf]; omega⟩
          rw [HN1.out]
          unfold stepS
          rw [if_neg HND.out, if_neg HOTH.out.1, if_neg HOTH.out.2.1, if_neg HOTH.out.2.2, if_pos rfl]; rfl
    · have hke : k = f.size := by omega
      have hfull : f.data.toList.take k = f.data.toList := List.take_of_length_le (by rw [data_length]; omega)
      rw [hfull] at hacc ⊢
      have hge : ¬ ((k : Int) < (f.size : Int)) := by omega
      have HACC := Aside0.mk hacc
      clear hfull hke hacc
      go_wp2
      go_ret
      exact ⟨rfl, HS.out.bel⟩


/-! ### show_Op: function 7 -/
def show_Op.f (a0_0 : Int) (a0_1 : Int) (a0_2 : Int) (a0_3 : Int) (a0_4 : Int) (a0_5 : ByteArray) (l0_6 : List Int) (a0_7 : Bool) : Option (ByteArray) := (show_op.f a0_0 a0_1 a0_2 a0_3 a0_4 a0_5 l0_6 a0_7).bind fun t107 => (some t107)
set_option maxHeartbeats 8000000 in
set_option maxRecDepth 100000 in
theorem show_Op.calls (a0_0 : Int) (a0_1 : Int) (a0_2 : Int) (a0_3 : Int) (a0_4 : Int) (a0_5 : ByteArray) (A0_6 : Option Addr) (c0_6 : Nat) (l0_6 : List Int) (a0_7 : Bool) (r : ByteArray) (w : World) (hr0_6 : Kd.C (Kd.int .i64) w A0_6 l0_6.length l0_6) (hc0_6 : l0_6.length ≤ c0_6) (h : show_Op.f a0_0 a0_1 a0_2 a0_3 a0_4 a0_5 l0_6 a0_7 = some r) (hG : Door.Laid w) :
    Calls Tryd.prog 7 #[.agg #[.int .i64 a0_0, .int .i64 a0_1, .int .i64 a0_2, .int .i64 a0_3, .int .i64 a0_4, .string a0_5, .slice A0_6 l0_6.length c0_6, .bool a0_7]] w fun e w' => e = .returned (.string r) ∧ Below w.heap.size w w' := by
  have hG_ := Aside0.mk hG
  clear hG
  have hu24 := Tryd.underlying24
  have HR0_6 := Aside0.mk hr0_6
  have HC0_6 := Aside0.mk hc0_6
  clear hr0_6 hc0_6
  have HB := Aside0.mk (Below.refl w.heap.size w)
  have H : ((show_op.f a0_0 a0_1 a0_2 a0_3 a0_4 a0_5 l0_6 a0_7).bind fun t107 => (some t107)) = some r := h
  clear h
  replace H := Option.bind_eq_some_iff.mp H
  obtain ⟨t107, A20, H⟩ := H
  replace H : (some t107) = some r := H
  have A2 := Aside0.mk A20
  clear A20
  obtain rfl := Option.some.inj H
  go_enter Tryd.func7, Tryd.ntmps7
  go_wp2_with (first | ((with_reducible refine gate_dst (N := 1) rfl ?_); refine box_event ?hg (N := 1) ?hd (cs := #[.int .i64 a0_0, .int .i64 a0_1, .int .i64 a0_2, .int .i64 a0_3, .int .i64 a0_4, .string a0_5, .slice A0_6 l0_6.length c0_6, .bool a0_7]) (t := 24) ?hr ?_; (case hd => rfl); (case hg => rfl); (case hr => first | (go_simp; done) | (go_simp; rfl)); intro gb106 hg w3 hbox hb; have n0_ := Aside0.mk (below_step (by repeat (first | (with_reducible first | exact HB.out | apply below_alloc | apply pw_below_drewN | apply below_drew1) | exact HB.out)) hb); have n1_ := Aside0.mk (hbox); have n2_ := Aside0.mk ((by rw [hg]; exact (below_size (by repeat (first | (with_reducible first | exact HB.out | apply below_alloc | apply pw_below_drewN | apply below_drew1) | exact HB.out))) : w.heap.size ≤ gb106)); have n3_ := Aside0.mk ((by rw [hg]; exact (below_size (by repeat (first | (with_reducible first | exact HB.out | apply below_alloc | apply pw_below_drewN | apply below_drew1) | exact HB.out))) : w.heap.size ≤ gb106)); clear HB; have HB := n0_; have BK106 := n1_; have GW106 := n2_; have GE106 := n3_; clear n0_ n1_ n2_ n3_; clear hb hbox hg; have hcz4_0 : w3.cell? ⟨gb106, 0, none⟩ = some (.int .i64 a0_0) := (blk_cell BK106.out 0).trans rfl; have hcz4_1 : w3.cell? ⟨gb106, 1, none⟩ = some (.int .i64 a0_1) := (blk_cell BK106.out 1).trans rfl; have hcz4_2 : w3.cell? ⟨gb106, 2, none⟩ = some (.int .i64 a0_2) := (blk_cell BK106.out 2).trans rfl; have hcz4_3 : w3.cell? ⟨gb106, 3, none⟩ = some (.int .i64 a0_3) := (blk_cell BK106.out 3).trans rfl; have hcz4_4 : w3.cell? ⟨gb106, 4, none⟩ = some (.int .i64 a0_4) := (blk_cell BK106.out 4).trans rfl; have hcz4_5 : w3.cell? ⟨gb106, 5, none⟩ = some (.string a0_5) := (blk_cell BK106.out 5).trans rfl; have hcz4_6 : w3.cell? ⟨gb106, 6, none⟩ = some (.slice A0_6 l0_6.length c0_6) := (blk_cell BK106.out 6).trans rfl; have hcz4_7 : w3.cell? ⟨gb106, 7, none⟩ = some (.bool a0_7) := (blk_cell BK106.out 7).trans rfl; have hfz4_0 := blk_frozen BK106.out 0; have hfz4_1 := blk_frozen BK106.out 1; have hfz4_2 := blk_frozen BK106.out 2; have hfz4_3 := blk_frozen BK106.out 3; have hfz4_4 := blk_frozen BK106.out 4; have hfz4_5 := blk_frozen BK106.out 5; have hfz4_6 := blk_frozen BK106.out 6; have hfz4_7 := blk_frozen BK106.out 7) | ((with_reducible refine gate_callee (f := 19) rfl ?_); refine goesL_ (some 4) rfl rfl Tryd.func19 (by kernel_rfl) rfl #[.agg #[.int .i64 a0_0, .int .i64 a0_1, .int .i64 a0_2, .int .i64 a0_3, .int .i64 a0_4, .string a0_5, .slice A0_6 l0_6.length c0_6, .bool a0_7]] rfl (by (try simp only [List.map_toArray, List.map_cons, List.map_nil]); first | done | rfl | (simp only [List.length_drop, List.length_take]; rfl)) ?_; (with_reducible refine (show_op.calls a0_0 a0_1 a0_2 a0_3 a0_4 a0_5 _ _ l0_6 a0_7 t107 _ ?side1 ?side2 A2.out (Door.Laid.on hG_.out (by repeat (first | (with_reducible first | exact HB.out | exact Below.refl _ _ | apply below_alloc | apply pw_below_drewN | apply below_drew1) | exact HB.out | exact Below.refl _ _)))).mono ?_); (case side1 => repeat (first | exact (Kd.C_below HR0_6.out HB.out) | (with_reducible refine Kd.C_alloc ?_ _) | (with_reducible refine Kd.C_drewN ?_ _) | (with_reducible refine Kd.C_drew ?_))); (case side2 => exact HC0_6.out); rintro e w5 ⟨rfl, hb⟩; refine ⟨_, rfl, ?_⟩; have n0_ := Aside0.mk (blk_below (g := gb106) (o := .cells #[.int .i64 a0_0, .int .i64 a0_1, .int .i64 a0_2, .int .i64 a0_3, .int .i64 a0_4, .string a0_5, .slice A0_6 l0_6.length c0_6, .bool a0_7] 24 (0, 0)) (by (with_reducible repeat (first | refine blk_drewN ?_ _ | refine blk_drew ?_ | refine blk_alloc ?_ _)); exact BK106.out) hb); have n1_ := Aside0.mk (below_step (by repeat (first | (with_reducible first | exact HB.out | apply below_alloc | apply pw_below_drewN | apply below_drew1 | refine below_set ?_ GE106.out) | exact HB.out)) hb); clear BK106; clear HB; have BK106 := n0_; have HB := n1_; clear n0_ n1_; (try clear hb); (try clear hb2); (try clear hk); (try clear hi)))
  go_ret
  exact ⟨by first | rfl | (simp [errW_none, errW_some] <;> rfl) | (simp [*, errW_none, errW_some] <;> rfl), by repeat (first | (with_reducible first | exact HB.out | apply below_alloc | apply pw_below_drewN | apply below_drew1 | refine below_set ?_ GE106.out) | exact HB.out)⟩

/-! ### hallmarklaw06_lives: function 9 -/
def hallmarklaw06_lives.f  : Option (Bool) := (show_Op.f 3 1 2 0 0 (⟨#[]⟩ : ByteArray) ([] : List Int) false).bind fun t108 => (some (t108.toList == ([97, 114, 105, 116, 104, 32, 97, 100, 100, 32, 118, 49, 32, 118, 50] : List UInt8)))
set_option maxHeartbeats 8000000 in
set_option maxRecDepth 100000 in
theorem hallmarklaw06_lives.calls  (r : Bool) (w : World) (h : hallmarklaw06_lives.f  = some r) (hG : Door.Laid w) :
    Calls Tryd.prog 9 #[] w fun e w' => e = .returned (.bool r) ∧ Below w.heap.size w w' := by
  have hG_ := Aside0.mk hG
  clear hG
  have hu24 := Tryd.underlying24
  have HB := Aside0.mk (Below.refl w.heap.size w)
  have H : ((show_Op.f 3 1 2 0 0 (⟨#[]⟩ : ByteArray) ([] : List Int) false).bind fun t108 => (some (t108.toList == ([97, 114, 105, 116, 104, 32, 97, 100, 100, 32, 118, 49, 32, 118, 50] : List UInt8)))) = some r := h
  clear h
  replace H := Option.bind_eq_some_iff.mp H
  obtain ⟨t108, A10, H⟩ := H
  replace H : (some (t108.toList == ([97, 114, 105, 116, 104, 32, 97, 100, 100, 32, 118, 49, 32, 118, 50] : List UInt8))) = some r := H
  have A1 := Aside0.mk A10
  clear A10
  obtain rfl := Option.some.inj H
  go_enter Tryd.func9, Tryd.ntmps9
  go_wp2_with (first | ((with_reducible refine gate_callee (f := 7) rfl ?_); refine goesL_ (some 2) rfl rfl Tryd.func7 (by kernel_rfl) rfl #[.agg #[.int .i64 3, .int .i64 1, .int .i64 2, .int .i64 0, .int .i64 0, .string (⟨#[]⟩ : ByteArray), .slice none 0 0, .bool false]] rfl (by (try simp only [List.map_toArray, List.map_cons, List.map_nil]); first | done | rfl | (simp only [List.length_drop, List.length_take]; rfl)) ?_; (refine (show_Op.calls 3 1 2 0 0 (⟨#[]⟩ : ByteArray) _ _ ([] : List Int) false t108 _ ?side1 ?side2 A1.out (Door.Laid.on hG_.out (by repeat (first | (with_reducible first | exact HB.out | exact Below.refl _ _ | apply below_alloc | apply pw_below_drewN | apply below_drew1) | exact HB.out | exact Below.refl _ _)))).mono ?_); (case side1 => exact Kd.C_nil _ _); (case side2 => exact Nat.le_refl _); rintro e w2 ⟨rfl, hb⟩; refine ⟨_, rfl, ?_⟩; have n0_ := Aside0.mk (below_step (by repeat (first | (with_reducible first | exact HB.out | apply below_alloc | apply pw_below_drewN | apply below_drew1) | exact HB.out)) hb); clear HB; have HB := n0_; clear n0_; (try clear hb); (try clear hb2); (try clear hk); (try clear hi)))
  go_ret
  exact ⟨by first | rfl | (simp [errW_none, errW_some] <;> rfl) | (simp [*, errW_none, errW_some] <;> rfl), by repeat (first | (with_reducible first | exact HB.out | apply below_alloc | apply pw_below_drewN | apply below_drew1) | exact HB.out)⟩

/-! ### show_typed: function 26 -/
def show_typed.f (a0 : Int) : Option ByteArray :=
  if a0 ≥ 6 then (show_digits.f (wrap64 (a0 - 6))).bind fun t => (if 1 + t.size ≤ 9223372036854775807 then some ((⟨#[42]⟩ : ByteArray) ++ t) else none)
  else if a0 < -1 then some ⟨#[63]⟩ else some (Door.show_types_tab.getD (a0 + 1).toNat ByteArray.empty)
set_option maxHeartbeats 4000000 in
set_option maxRecDepth 100000 in
theorem show_typed.calls (a0 : Int) (r : ByteArray) (w : World) (h : show_typed.f a0 = some r) (hG : Door.Laid w) :
    Calls Tryd.prog 26 #[.int .i64 a0] w fun e w' => e = .returned (.string r) ∧ Below w.heap.size w w' := by
  have HG := Aside0.mk hG
  clear hG
  unfold show_typed.f at h
  by_cases h6 : a0 ≥ 6
  · rw [if_pos h6] at h
    obtain ⟨t, A2, h⟩ := Option.bind_eq_some_iff.mp h
    have A2_ := Aside0.mk A2
    clear A2
    by_cases c3 : 1 + t.size ≤ 9223372036854775807
    · rw [if_pos c3] at h
      have c3b0 := eq_true c3
      have c3b1 : decide (1 + t.size ≤ 9223372036854775807) = true := decide_eq_true c3
      have c3b2 : (9223372036854775807 < 1 + t.size) = False := eq_false (Nat.not_lt.2 c3)
      obtain rfl := Option.some.inj h
      have h6b : (a0 ≥ 6) = True := eq_true h6
      have h6c : (6 ≤ a0) = True := eq_true h6
      go_enter Tryd.func26, Tryd.ntmps26
      go_wp2_with (first | (go_at_call 32; (with_reducible refine (show_digits.calls _ t _ A2_.out HG.out).mono ?_); rintro e W3 ⟨rfl, hB3⟩; refine Aside0.out ?_))
      refine ⟨?_⟩
      have HB3 := Aside0.mk hB3
      clear hB3
      go_wp2
      go_ret
      exact ⟨rfl, HB3.out⟩
    · rw [if_neg c3] at h
      exact absurd h (by simp)
  · rw [if_neg h6] at h
    by_cases h1 : a0 < -1
    · rw [if_pos h1] at h
      obtain rfl := Option.some.inj h
      go_enter Tryd.func26, Tryd.ntmps26
      go_wp2
      go_ret
      exact ⟨rfl, Below.refl _ _⟩
    · rw [if_neg h1] at h
      obtain rfl := Option.some.inj h
      have hc := HG.out.show_types_at (a0 + 1).toNat (by omega)
      obtain ⟨s, hs⟩ : ∃ s, Door.show_types_tab.getD (a0 + 1).toNat ByteArray.empty = s := ⟨_, rfl⟩
      rw [hs] at hc ⊢
      have h7 : a0 = -1 ∨ a0 = 0 ∨ a0 = 1 ∨ a0 = 2 ∨ a0 = 3 ∨ a0 = 4 ∨ a0 = 5 := by omega
      clear hs h6 h1
      rcases h7 with rfl | rfl | rfl | rfl | rfl | rfl | rfl
      all_goals
        simp only [Int.reduceNeg, Int.reduceAdd, Int.reduceToNat] at hc
        go_enter Tryd.func26, Tryd.ntmps26
        go_wp2
        go_ret
        exact ⟨rfl, Below.refl _ _⟩

/-! ### show_Type: function 10 -/
def show_Type.f (a0 : Int) : Option (ByteArray) := (show_typed.f a0).bind fun t109 => (some t109)
set_option maxHeartbeats 8000000 in
set_option maxRecDepth 100000 in
theorem show_Type.calls (a0 : Int) (r : ByteArray) (w : World) (h : show_Type.f a0 = some r) (hG : Door.Laid w) :
    Calls Tryd.prog 10 #[.int .i64 a0] w fun e w' => e = .returned (.string r) ∧ Below w.heap.size w w' := by
  have hG_ := Aside0.mk hG
  clear hG
  have HB := Aside0.mk (Below.refl w.heap.size w)
  have H : ((show_typed.f a0).bind fun t109 => (some t109)) = some r := h
  clear h
  replace H := Option.bind_eq_some_iff.mp H
  obtain ⟨t109, A20, H⟩ := H
  replace H : (some t109) = some r := H
  have A2 := Aside0.mk A20
  clear A20
  obtain rfl := Option.some.inj H
  go_enter Tryd.func10, Tryd.ntmps10
  go_wp2_with (first | ((with_reducible refine gate_callee (f := 26) rfl ?_); refine goesL_ (some 4) rfl rfl Tryd.func26 (by kernel_rfl) rfl #[.int .i64 a0] rfl (by (try simp only [List.map_toArray, List.map_cons, List.map_nil]); first | done | rfl | (simp only [List.length_drop, List.length_take]; rfl)) ?_; (with_reducible refine (show_typed.calls a0 t109 _ A2.out (Door.Laid.on hG_.out (by repeat (first | (with_reducible first | exact HB.out | exact Below.refl _ _ | apply below_alloc | apply pw_below_drewN | apply below_drew1) | exact HB.out | exact Below.refl _ _)))).mono ?_); rintro e w3 ⟨rfl, hb⟩; refine ⟨_, rfl, ?_⟩; have n0_ := Aside0.mk (below_step (by repeat (first | (with_reducible first | exact HB.out | apply below_alloc | apply pw_below_drewN | apply below_drew1) | exact HB.out)) hb); clear HB; have HB := n0_; clear n0_; (try clear hb); (try clear hb2); (try clear hk); (try clear hi)))
  go_ret
  exact ⟨by first | rfl | (simp [errW_none, errW_some] <;> rfl) | (simp [*, errW_none, errW_some] <;> rfl), by repeat (first | (with_reducible first | exact HB.out | apply below_alloc | apply pw_below_drewN | apply below_drew1) | exact HB.out)⟩

end Go.Proofs.YtojmepkhbebllaaDoor.PShowTypes
