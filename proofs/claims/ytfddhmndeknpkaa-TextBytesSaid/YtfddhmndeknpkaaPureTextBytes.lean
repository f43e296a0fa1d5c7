/- Which byte stands at each place of a text: proved for every text that the statement lets in (up to 2^47 bytes) and every place. -/
import Derived.Test.YtfddhmndeknpkaaPTextBytesx1
namespace Go.Proofs.Ytfddhmndeknpkaa.Pure
open Go.RowKit Go.Proofs.Ytfddhmndeknpkaa.PTextBytes Go.Proofs.YtfddhmndeknpkaaW.PrintWords Go.Proofs.YtfddhmndeknpkaaW.PrintLast

theorem TextBytes : hallmarklaw02_TextBytes.Pure := by
  intro a0 a1 h0 h1
  unfold hallmarklaw02_TextBytes.f text_Byte.f
  by_cases hA : a1 < 0
  · simp [hA]
  · by_cases hB : a1 ≥ (a0.size : Int)
    · simp [hA, hB]
    · rw [if_neg hA, if_neg hB, if_pos (by omega), if_pos (by omega)]
      simp only [Option.bind_some]
      rw [if_neg hA, if_neg hB, if_pos trivial, if_pos (by omega), if_pos (by omega)]
      simp

end Go.Proofs.Ytfddhmndeknpkaa.Pure
