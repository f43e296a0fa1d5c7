/- Two texts are joined, or told as too long: proved for all texts that the statement lets in (each up to 2^47 bytes). -/
import Derived.Test.YtfddhmndeknpkaaPTextJoinsx1
namespace Go.Proofs.Ytfddhmndeknpkaa.Pure
open Go.RowKit Go.Proofs.Ytfddhmndeknpkaa.PTextJoins Go.Proofs.YtfddhmndeknpkaaW.PrintWords Go.Proofs.YtfddhmndeknpkaaW.PrintLast

theorem TextJoins : hallmarklaw02_TextJoins.Pure := by
  intro a0 a1 h0 h1
  unfold hallmarklaw02_TextJoins.f text_Cat.f
  have hw : wrap64 ((a0.size : Int) + (a1.size : Int)) = (a0.size : Int) + (a1.size : Int) := by unfold wrap64; omega
  have e : (⟨#[]⟩ : ByteArray).toList = [] := by rw [ByteArray.toList_eq]
  have hw2 : wrap64 (4096 - (a0.size : Int)) = 4096 - (a0.size : Int) := by unfold wrap64; omega
  rw [hw, hw2]
  by_cases hA : (a0.size : Int) + (a1.size : Int) > 4096
  · rw [if_pos hA]
    simp only [Option.bind_some]
    by_cases hB : (a0.size : Int) > 4096
    · rw [if_pos hB, if_pos e]; rfl
    · rw [if_neg hB, if_pos (by omega), if_pos e]; rfl
  · rw [if_neg hA, if_pos (by omega)]
    simp only [Option.bind_some]
    rw [if_neg (by omega), if_neg (by omega), if_pos trivial, if_pos (by omega), beq_self_eq_true]

end Go.Proofs.Ytfddhmndeknpkaa.Pure
