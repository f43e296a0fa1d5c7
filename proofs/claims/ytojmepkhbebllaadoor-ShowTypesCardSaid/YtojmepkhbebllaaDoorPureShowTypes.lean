/- Each type's name. -/
import Derived.Test.YtojmepkhbebllaaDoorSizeShowTypes
namespace Go.Proofs.YtojmepkhbebllaaDoor.Pure
open Go Go.RowKit Go.Proofs.YtojmepkhbebllaaDoorW.PrintWords Go.Proofs.YtojmepkhbebllaaDoorW.PrintLast Go.Proofs.YtojmepkhbebllaaDoorW.PrintMore Go.Proofs.YtojmepkhbebllaaDoor.PShowTypes Go.Proofs.YtojmepkhbebllaaDoor.BaseShowTypes Go.Proofs.YtojmepkhbebllaaDoor.SizeShowTypes

def mk (l : List UInt8) : ByteArray := ⟨l.toArray⟩
theorem size_mk (l : List UInt8) : (mk l).size = l.length := by show l.toArray.size = _; simp
theorem mk_app (l m : List UInt8) : mk l ++ mk m = mk (l ++ m) := by
  apply ByteArray.ext
  simp [mk, ByteArray.data_append]
theorem tmod10 (u : Nat) : Int.tmod (u : Int) 10 = ((u % 10 : Nat) : Int) := (Int.ofNat_tmod u 10).symm
theorem str_one (n : Nat) : strOfNums [(n : Int)] = mk [UInt8.ofNat n] := by
  show (⟨([(n : Int)].map fun n => UInt8.ofNat n.toNat).toArray⟩ : ByteArray) = _
  rw [List.map_cons, List.map_nil, Int.toNat_natCast]
  rfl
theorem ref_digits : ∀ (f u k : Nat), u < 10 ^ (f + 1) → u < 18446744073709551616 → f < k → f < 20 → hallmarkref02_digits.f k (u : Int) = some (mk (Lib.decDigits u)) ∧ (Lib.decDigits u).length ≤ f + 1 := by
  intro f
  induction f with
  | zero =>
    intro u k hu _ hk _
    obtain ⟨k, rfl⟩ : ∃ m, k = m + 1 := ⟨k - 1, by omega⟩
    have e : Lib.decDigits u = [UInt8.ofNat (48 + u)] := by rw [Lib.decDigits, dif_pos (by omega)]
    rw [e]
    refine ⟨?_, by simp⟩
    simp only [hallmarkref02_digits.f, Option.bind_some]
    rw [if_neg (by omega)]
    have hd : (48 + Int.tmod (u : Int) 10 % 256) % 256 = ((48 + u : Nat) : Int) := by
      rw [tmod10]
      omega
    rw [hd, str_one]
  | succ f ih =>
    intro u k hu hu2 hk hf
    obtain ⟨k, rfl⟩ : ∃ m, k = m + 1 := ⟨k - 1, by omega⟩
    simp only [hallmarkref02_digits.f, Option.bind_some]
    have hd : (48 + Int.tmod (u : Int) 10 % 256) % 256 = ((48 + u % 10 : Nat) : Int) := by
      rw [tmod10]
      omega
    rw [hd]
    have hs : strOfNums [((48 + u % 10 : Nat) : Int)] = mk [UInt8.ofNat (48 + u % 10)] := str_one _
    rw [hs]
    by_cases hge : 10 ≤ u
    · have e : Lib.decDigits u = Lib.decDigits (u / 10) ++ [UInt8.ofNat (48 + u % 10)] := by rw [Lib.decDigits, dif_neg (by omega)]
      have ht : Int.tdiv (u : Int) 10 = ((u / 10 : Nat) : Int) := by exact (Int.ofNat_tdiv u 10).symm
      have hw : IntKind.u64.wrap ((u / 10 : Nat) : Int) = ((u / 10 : Nat) : Int) := u64_id (by omega) (by omega)
      have hp : u / 10 < 10 ^ (f + 1) := by rw [Nat.div_lt_iff_lt_mul (by decide)]; rw [← Nat.pow_succ]; exact hu
      obtain ⟨h1, h2⟩ := ih (u / 10) k hp (by omega) (by omega) (by omega)
      rw [if_pos (by omega), ht, hw, h1]
      simp only [Option.bind_some, size_mk, List.length_singleton]
      rw [if_pos (by omega), mk_app, e]
      exact ⟨rfl, by rw [List.length_append, List.length_singleton]; omega⟩
    · have e : Lib.decDigits u = [UInt8.ofNat (48 + u)] := by rw [Lib.decDigits, dif_pos (by omega)]
      rw [if_neg (by omega), e, Nat.mod_eq_of_lt (by omega)]
      exact ⟨rfl, by simp⟩
theorem digits_is (n : Int) (hr : -9223372036854775808 ≤ n ∧ n < 9223372036854775808) (k : Nat) (hk : 70 ≤ k) : hallmarkref02_Digits.f k n = some (shD n) ∧ (shD n).size ≤ 30 := by
  have p20 : (10 : Nat) ^ (19 + 1) = 100000000000000000000 := by decide
  refine ⟨?_, shD_size n ⟨hr.1, by omega⟩⟩
  unfold hallmarkref02_Digits.f shD
  have e34 : (⟨#[45]⟩ : ByteArray) = mk [45] := rfl
  by_cases hn : n < 0
  · obtain ⟨h1, h2⟩ := ref_digits 19 n.natAbs k (by rw [p20]; omega) (by omega) (by omega) (by decide)
    rw [if_pos hn, size_is n hr k (by omega)]
    simp only [Option.bind_some]
    rw [h1]
    simp only [Option.bind_some, size_mk]
    rw [if_pos (by omega), e34, mk_app]
    have e : Lib.itoa n = [45] ++ Lib.decDigits n.natAbs := by rw [Lib.itoa, if_pos hn]; rfl
    rw [e]
    rfl
  · obtain ⟨m, rfl⟩ := Int.eq_ofNat_of_zero_le (show 0 ≤ n by omega)
    obtain ⟨h1, h2⟩ := ref_digits 19 m k (by rw [p20]; omega) (by omega) (by omega) (by decide)
    have hw : IntKind.u64.wrap (m : Int) = (m : Int) := u64_id (by omega) (by omega)
    rw [if_neg hn, hw, h1]
    simp only [Option.bind_some]
    have e : Lib.itoa (m : Int) = Lib.decDigits m := by rw [Lib.itoa, if_neg hn]; rfl
    rw [e]
    rfl
theorem one_digit (n : Nat) (h : n < 10) : shD (n : Int) = ⟨#[UInt8.ofNat (48 + n)]⟩ := by
  unfold shD
  rw [Lib.itoa, if_neg (by omega), Int.toNat_natCast, Lib.decDigits, dif_pos h]
theorem fields3 : fieldsL 3 = ⟨#[78, 65, 66]⟩ := by decide +kernel
theorem op_lives : show_op.f 3 1 2 0 0 (⟨#[]⟩ : ByteArray) ([] : List Int) false = some ⟨#[97, 114, 105, 116, 104, 32, 97, 100, 100, 32, 118, 49, 32, 118, 50]⟩ := by
  unfold show_op.f
  rw [fields3, if_pos ⟨by decide +kernel, by decide, by decide, by decide, by decide⟩]
  have e1 : shD 1 = ⟨#[49]⟩ := one_digit 1 (by decide)
  have e2 : shD 2 = ⟨#[50]⟩ := one_digit 2 (by decide)
  unfold outS
  show some (stepS 3 1 2 0 0 false (stepS 3 1 2 0 0 false (stepS 3 1 2 0 0 false (nameS Door.show_steps_tab 3) 78) 65) 66) = _
  unfold stepS
  simp only [if_pos, e1, e2, if_neg (show ¬ ((65 : UInt8) = 78) by decide), if_neg (show ¬ ((66 : UInt8) = 78) by decide), if_neg (show ¬ ((66 : UInt8) = 65) by decide)]
  decide +kernel
theorem lives_is : hallmarklaw06_lives.f = some true := by
  unfold hallmarklaw06_lives.f show_Op.f
  rw [op_lives, Option.bind_some, Option.bind_some]
  decide +kernel
def typesS : ByteArray := ⟨#[110, 111, 110, 101, 32, 105, 110, 116, 32, 98, 111, 111, 108, 32, 116, 101, 120, 116, 32, 115, 108, 105, 99, 101, 32, 116, 97, 98, 108, 101, 32, 102, 97, 99, 101]⟩
theorem words_are : ∀ i : Fin 7, hallmarkref06_word.f 100 typesS (i.val : Int) = some (Door.show_types_tab.getD i.val ByteArray.empty) := by decide +kernel
theorem Type_is (t : Int) (hr : -9223372036854775808 ≤ t ∧ t < 9223372036854775808) : ∃ s, show_typed.f t = some s ∧ hallmarkref06_Type.f 100 t = some s := by
  unfold show_typed.f hallmarkref06_Type.f
  by_cases h6 : t ≥ 6
  · rw [if_pos h6, if_pos h6]
    have hw : wrap64 (t - 6) = t - 6 := wrap_id (by omega) (by omega)
    obtain ⟨d1, d2⟩ := digits_is (t - 6) (by omega) 100 (by omega)
    have d3 : show_digits.f (t - 6) = some (shD (t - 6)) := by
      unfold show_digits.f
      rw [digits_f (t - 6) ⟨by omega, by omega⟩]; rfl
    have d4 : hallmarkref06_num.f 100 (t - 6) = some (shD (t - 6)) := by
      unfold hallmarkref06_num.f
      rw [d1]; rfl
    rw [hw, d3, d4, Option.bind_some, if_pos (by omega)]
    exact ⟨_, rfl, rfl⟩
  · rw [if_neg h6, if_neg h6]
    by_cases h1 : t < -1
    · rw [if_pos h1, if_pos h1]
      exact ⟨_, rfl, rfl⟩
    · rw [if_neg h1, if_neg h1]
      obtain ⟨i, hi⟩ := Int.eq_ofNat_of_zero_le (show 0 ≤ t + 1 by omega)
      have hw : wrap64 (t + 1) = t + 1 := wrap_id (by omega) (by omega)
      have := words_are ⟨i, by omega⟩
      unfold typesS at this
      rw [hw, hi, this]
      exact ⟨_, rfl, rfl⟩
theorem ShowTypes : hallmarklaw06_ShowTypes.Pure := by
  intro a0 h0
  have hr := range h0
  refine ⟨100, ?_⟩
  obtain ⟨s, h1, h2⟩ := Type_is a0 hr
  unfold hallmarklaw06_ShowTypes.f show_Type.f
  rw [h1, Option.bind_some, Option.bind_some, h2, Option.bind_some, if_pos rfl, lives_is]
  rfl
end Go.Proofs.YtojmepkhbebllaaDoor.Pure
