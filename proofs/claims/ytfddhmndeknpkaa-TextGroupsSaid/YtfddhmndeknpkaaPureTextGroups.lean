/- Three texts are joined to the same, whichever two are joined first: proved for all texts that the statement lets in (each up to 2^47 bytes). -/
import Derived.Test.YtfddhmndeknpkaaPTextGroupsx1
namespace Go.Proofs.Ytfddhmndeknpkaa.Pure
open Go.RowKit Go.Proofs.Ytfddhmndeknpkaa.PTextGroups Go.Proofs.YtfddhmndeknpkaaW.PrintWords Go.Proofs.YtfddhmndeknpkaaW.PrintLast

theorem cat_long {a b : ByteArray} (h0 : a.size ≤ 140737488351232) (h1 : b.size ≤ 140737488351232) (h : (a.size : Int) + (b.size : Int) > 4096) : text_Cat.f a b = some (⟨#[]⟩, false) := by
  unfold text_Cat.f
  have hw : wrap64 ((a.size : Int) + (b.size : Int)) = (a.size : Int) + (b.size : Int) := by unfold wrap64; omega
  rw [hw, if_pos h]
theorem cat_short {a b : ByteArray} (h : (a.size : Int) + (b.size : Int) ≤ 4096) : text_Cat.f a b = some (a ++ b, true) := by
  unfold text_Cat.f
  have hw : wrap64 ((a.size : Int) + (b.size : Int)) = (a.size : Int) + (b.size : Int) := by unfold wrap64; omega
  rw [hw, if_neg (by omega), if_pos (by omega)]
theorem size_none : ((⟨#[]⟩ : ByteArray).size : Int) = 0 := rfl


theorem j_long (k : Nat) {a0 a1 a2 x7 x9 : ByteArray} (h0 : a0.size ≤ 140737488351232) (h1 : a1.size ≤ 140737488351232) (h2 : a2.size ≤ 140737488351232) (h7 : (x7.size : Int) ≤ 4096) (h9 : (x9.size : Int) ≤ 4096)
    (h : (a0.size : Int) + (a1.size : Int) > 4096 ∨ (a1.size : Int) + (a2.size : Int) > 4096) : hallmarklaw02_TextGroups.j0 (k + 1) a0 a1 a2 x7 x9 true = some true := by
  have w3 : wrap64 ((wrap64 ((a0.size : Int) + (a1.size : Int))) + (a2.size : Int)) = (a0.size : Int) + (a1.size : Int) + (a2.size : Int) := by unfold wrap64; omega
  have w2 : wrap64 ((x7.size : Int) + (x9.size : Int)) = (x7.size : Int) + (x9.size : Int) := by unfold wrap64; omega
  have hgt : (a0.size : Int) + (a1.size : Int) + (a2.size : Int) > 4096 := by omega
  have hle : (x7.size : Int) + (x9.size : Int) ≤ 8192 := by omega
  simp only [hallmarklaw02_TextGroups.j0]
  rw [if_pos trivial, w2, w3, if_pos hle, decide_eq_true hgt]
theorem j_both (k : Nat) {a0 a1 a2 : ByteArray} (h0 : a0.size ≤ 140737488351232) (h2 : a2.size ≤ 140737488351232)
    (hA : (a0.size : Int) + (a1.size : Int) ≤ 4096) (hB : (a1.size : Int) + (a2.size : Int) ≤ 4096) : hallmarklaw02_TextGroups.j0 (k + 1) a0 a1 a2 (a0 ++ a1) (a1 ++ a2) false = some true := by
  have s1 : ((a0 ++ a1).size : Int) = (a0.size : Int) + (a1.size : Int) := by rw [ByteArray.size_append]; omega
  have s2 : ((a1 ++ a2).size : Int) = (a1.size : Int) + (a2.size : Int) := by rw [ByteArray.size_append]; omega
  simp only [hallmarklaw02_TextGroups.j0]
  rw [if_neg (by decide)]
  by_cases hC : (a0.size : Int) + (a1.size : Int) + (a2.size : Int) > 4096
  · rw [cat_long (a := a0 ++ a1) (b := a2) (by omega) h2 (by omega), cat_long (a := a0) (b := a1 ++ a2) h0 (by omega) (by omega)]
    simp only [Option.bind_some]
    simp only [beq_self_eq_true, if_true, Bool.false_eq_true, if_false]
  · rw [cat_short (a := a0 ++ a1) (b := a2) (by omega), cat_short (a := a0) (b := a1 ++ a2) (by omega)]
    have g1 : a0.size + a1.size ≤ 9223372036854775807 := by omega
    have g2 : (a0 ++ a1).size + a2.size ≤ 9223372036854775807 := by omega
    simp only [Option.bind_some]
    rw [if_pos (by decide), if_pos (by rw [ByteArray.append_assoc]), if_pos trivial, if_pos g1, if_pos g2, beq_self_eq_true]
theorem none_short : ((⟨#[]⟩ : ByteArray).size : Int) ≤ 4096 := by decide

theorem main (k : Nat) (a0 a1 a2 : ByteArray) (h0 : a0.size ≤ 140737488351232) (h1 : a1.size ≤ 140737488351232) (h2 : a2.size ≤ 140737488351232) : hallmarklaw02_TextGroups.f (k + 1) a0 a1 a2 = some true := by
  unfold hallmarklaw02_TextGroups.f
  by_cases hA : (a0.size : Int) + (a1.size : Int) > 4096
  · by_cases hB : (a1.size : Int) + (a2.size : Int) > 4096
    · have J := j_long k h0 h1 h2 none_short none_short (.inl hA)
      rw [cat_long h0 h1 hA, cat_long h1 h2 hB, Option.bind_some, Option.bind_some, if_neg (by decide)]
      exact J
    · have J := j_long k (a0 := a0) (x7 := ⟨#[]⟩) (x9 := a1 ++ a2) h0 h1 h2 none_short (by rw [ByteArray.size_append]; omega) (.inl hA)
      rw [cat_long h0 h1 hA, cat_short (a := a1) (b := a2) (by omega), Option.bind_some, Option.bind_some, if_neg (by decide)]
      exact J
  · by_cases hB : (a1.size : Int) + (a2.size : Int) > 4096
    · have J := j_long k (a0 := a0) (a1 := a1) (x7 := a0 ++ a1) (x9 := ⟨#[]⟩) h0 h1 h2 (by rw [ByteArray.size_append]; omega) none_short (.inr hB)
      rw [cat_short (a := a0) (b := a1) (by omega), cat_long h1 h2 hB, Option.bind_some, Option.bind_some, if_pos rfl]
      exact J
    · have J := j_both k (a0 := a0) (a1 := a1) (a2 := a2) h0 h2 (by omega) (by omega)
      rw [cat_short (a := a0) (b := a1) (by omega), cat_short (a := a1) (b := a2) (by omega), Option.bind_some, Option.bind_some, if_pos rfl]
      exact J

theorem TextGroups : hallmarklaw02_TextGroups.Pure := fun a0 a1 a2 h0 h1 h2 => ⟨0 + 1, main 0 a0 a1 a2 h0 h1 h2⟩

end Go.Proofs.Ytfddhmndeknpkaa.Pure
