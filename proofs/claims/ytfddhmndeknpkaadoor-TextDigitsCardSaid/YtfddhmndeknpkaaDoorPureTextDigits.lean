/- How each number is written. -/
import Derived.Test.YtfddhmndeknpkaaDoorSizeTextDigits
namespace Go.Proofs.YtfddhmndeknpkaaDoor.Pure
open Go Go.RowKit Go.Proofs.YtfddhmndeknpkaaDoorW.PrintWords Go.Proofs.YtfddhmndeknpkaaDoorW.PrintLast Go.Proofs.YtfddhmndeknpkaaDoorW.PrintMore Go.Proofs.YtfddhmndeknpkaaDoor.PTextDigits Go.Proofs.YtfddhmndeknpkaaDoor.BaseTextDigits Go.Proofs.YtfddhmndeknpkaaDoor.SizeTextDigits

def mk (l : List UInt8) : ByteArray := ⟨l.toArray⟩
theorem size_mk (l : List UInt8) : (mk l).size = l.length := by show l.toArray.size = _; simp
theorem mk_app (l m : List UInt8) : mk l ++ mk m = mk (l ++ m) := by
  apply ByteArray.ext
  simp [mk, ByteArray.data_append]
theorem tmod10 (u : Nat) : Int.tmod (u : Int) 10 = ((u % 10 : Nat) : Int) := (Int.ofNat_tmod u 10).symm
theorem str_one (n : Nat) : strOfNums [(n : Int)] = mk [UInt8.ofNat n] := by
  show (⟨([(n : Int)].map fun n => UInt8.ofNat n.toNat).toArray⟩ : ByteArray) = _
  rw [List.map_cons, List.map_nil, Int.toNat_natCast]
  rfl
theorem ref_digits : ∀ (f u k : Nat), u < 10 ^ (f + 1) → u < 18446744073709551616 → f < k → f < 20 → hallmarkref02_digits.f k (u : Int) = some (mk (Lib.decDigits u)) ∧ (Lib.decDigits u).length ≤ f + 1 := by
  intro f
  induction f with
  | zero =>
    intro u k hu _ hk _
    obtain ⟨k, rfl⟩ : ∃ m, k = m + 1 := ⟨k - 1, by omega⟩
    have e : Lib.decDigits u = [UInt8.ofNat (48 + u)] := by rw [Lib.decDigits, dif_pos (by omega)]
    rw [e]
    refine ⟨?_, by simp⟩
    simp only [hallmarkref02_digits.f, Option.bind_some]
    rw [if_neg (by omega)]
    have hd : (48 + Int.tmod (u : Int) 10 % 256) % 256 = ((48 + u : Nat) : Int) := by
      rw [tmod10]
      omega
    rw [hd, str_one]
  | succ f ih =>
    intro u k hu hu2 hk hf
    obtain ⟨k, rfl⟩ : ∃ m, k = m + 1 := ⟨k - 1, by omega⟩
    simp only [hallmarkref02_digits.f, Option.bind_some]
    have hd : (48 + Int.tmod (u : Int) 10 % 256) % 256 = ((48 + u % 10 : Nat) : Int) := by
      rw [tmod10]
      omega
    rw [hd]
    have hs : strOfNums [((48 + u % 10 : Nat) : Int)] = mk [UInt8.ofNat (48 + u % 10)] := str_one _
    rw [hs]
    by_cases hge : 10 ≤ u
    · have e : Lib.decDigits u = Lib.decDigits (u / 10) ++ [UInt8.ofNat (48 + u % 10)] := by rw [Lib.decDigits, dif_neg (by omega)]
      have ht : Int.tdiv (u : Int) 10 = ((u / 10 : Nat) : Int) := by exact (Int.ofNat_tdiv u 10).symm
      have hw : IntKind.u64.wrap ((u / 10 : Nat) : Int) = ((u / 10 : Nat) : Int) := u64_id (by omega) (by omega)
      have hp : u / 10 < 10 ^ (f + 1) := by rw [Nat.div_lt_iff_lt_mul (by decide)]; rw [← Nat.pow_succ]; exact hu
      obtain ⟨h1, h2⟩ := ih (u / 10) k hp (by omega) (by omega) (by omega)
      rw [if_pos (by omega), ht, hw, h1]
      simp only [Option.bind_some, size_mk, List.length_singleton]
      rw [if_pos (by omega), mk_app, e]
      exact ⟨rfl, by rw [List.length_append, List.length_singleton]; omega⟩
    · have e : Lib.decDigits u = [UInt8.ofNat (48 + u)] := by rw [Lib.decDigits, dif_pos (by omega)]
      rw [if_neg (by omega), e, Nat.mod_eq_of_lt (by omega)]
      exact ⟨rfl, by simp⟩
theorem TextDigits : hallmarklaw02_TextDigits.Pure := by
  intro a0 h0
  have hr := range h0
  refine ⟨70, ?_⟩
  generalize hk : 70 = k
  have p20 : (10 : Nat) ^ (19 + 1) = 100000000000000000000 := by decide
  unfold hallmarklaw02_TextDigits.f text_Digits.f strconv_FormatInt.f
  rw [if_pos ⟨rfl, hr.1, by omega⟩]
  simp only [Option.bind_some]
  unfold hallmarkref02_Digits.f
  have e34 : (⟨#[45]⟩ : ByteArray) = mk [45] := rfl
  by_cases hn : a0 < 0
  · obtain ⟨h1, h2⟩ := ref_digits 19 a0.natAbs k (by rw [p20]; omega) (by omega) (by omega) (by decide)
    rw [if_pos hn, size_is a0 hr k (by omega)]
    simp only [Option.bind_some]
    rw [h1]
    simp only [Option.bind_some, size_mk]
    rw [if_pos (by omega), e34, mk_app]
    have e : Lib.itoa a0 = [45] ++ Lib.decDigits a0.natAbs := by rw [Lib.itoa, if_pos hn]; rfl
    rw [e]
    simp [mk]
  · obtain ⟨n, rfl⟩ := Int.eq_ofNat_of_zero_le (show 0 ≤ a0 by omega)
    obtain ⟨h1, h2⟩ := ref_digits 19 n k (by rw [p20]; omega) (by omega) (by omega) (by decide)
    have hw : IntKind.u64.wrap (n : Int) = (n : Int) := u64_id (by omega) (by omega)
    rw [if_neg hn, hw, h1]
    simp only [Option.bind_some]
    have e : Lib.itoa (n : Int) = Lib.decDigits n := by rw [Lib.itoa, if_neg hn]; rfl
    rw [e]
    simp [mk]
end Go.Proofs.YtfddhmndeknpkaaDoor.Pure
