/- Which signs there are, and of which type what comes is: proved for all signs and words. -/
import Derived.Test.YtddkjckheacecaaArithWordSigns
namespace Go.Proofs.Ytddkjckheacecaa.Pure
open Go.RowKit Go.Proofs.Ytddkjckheacecaa.PWordSigns Go.Proofs.Ytddkjckheacecaa.BaseWordSigns Go.Proofs.Ytddkjckheacecaa.CalcWordSigns

theorem can_yes (s : Int) (h0 : 0 ≤ s) (h1 : s ≤ 13) : word_Can.f s = some true := by
  unfold word_Can.f word_can.f
  rw [if_pos h0, Option.bind_some, decide_eq_true h1]
theorem can_no (s : Int) (h : s < 0 ∨ s > 13) : word_Can.f s = some false := by
  unfold word_Can.f word_can.f
  by_cases h0 : s ≥ 0
  · rw [if_pos h0, Option.bind_some, decide_eq_false (by omega)]
  · rw [if_neg h0, Option.bind_some]
theorem tells_is (k : Nat) (s : Int) : ∃ t, word_Tells.f s = some t ∧ hallmarkref01_Tells.f (k + 1) s = some t := by
  unfold word_Tells.f word_can.f hallmarkref01_Tells.f
  simp only [hallmarkref01_Tells.j0]
  by_cases h0 : s ≥ 0
  · rw [if_pos h0, Option.bind_some, if_neg (show ¬ s < 0 by omega)]
    by_cases h1 : s ≤ 13
    · rw [decide_eq_true h1, if_pos rfl, decide_eq_false (show ¬ s > 13 by omega), if_neg (show ¬ (false = true) by decide)]
      by_cases h2 : s ≥ 10
      · rw [if_pos h2]; exact ⟨1, rfl, rfl⟩
      · rw [if_neg h2]; exact ⟨0, rfl, rfl⟩
    · rw [decide_eq_false h1, if_neg (show ¬ (false = true) by decide), decide_eq_true (show s > 13 by omega), if_pos rfl]; exact ⟨-1, rfl, rfl⟩
  · rw [if_neg h0, Option.bind_some, if_neg (show ¬ (false = true) by decide), if_pos (show s < 0 by omega), if_pos trivial]; exact ⟨-1, rfl, rfl⟩

theorem tail (k : Nat) (n : Int) (ok may : Bool) (h : may = true ∨ (n = 0 ∧ ok = false)) : hallmarklaw01_WordSigns.j1 (k + 1) n ok may false = some true := by
  have c := can_yes 13 (by decide) (by decide)
  have t : word_Tells.f 10 = some 1 := by
    unfold word_Tells.f word_can.f; rfl
  simp only [hallmarklaw01_WordSigns.j1]
  rw [if_neg (by decide)]
  cases may
  · rcases h with h | ⟨h1, h2⟩
    · cases h
    · rw [if_neg (by decide), if_pos h1, h2, if_neg (by decide), c, Option.bind_some, if_pos rfl, t, Option.bind_some]; rfl
  · rw [if_pos rfl, c, Option.bind_some, if_pos rfl, t, Option.bind_some]; rfl

theorem mid (k : Nat) (s n : Int) (ok may : Bool) (hc : word_Can.f s = some may) (h : may = true ∨ (n = 0 ∧ ok = false)) : hallmarklaw01_WordSigns.j0 (k + 1 + 1) s n ok may = some true := by
  obtain ⟨t, h1, h2⟩ := tells_is k s
  simp only [hallmarklaw01_WordSigns.j0]
  rw [hc, Option.bind_some, if_neg (by cases may <;> decide), h1, Option.bind_some, h2, Option.bind_some, bne_self_eq_false]
  exact tail k n ok may h

theorem main (k : Nat) (s a b : Int) : hallmarklaw01_WordSigns.f (k + 1 + 1) s a b = some true := by
  unfold hallmarklaw01_WordSigns.f
  rw [word_at _ (Nat.le_add_left 1 _), Option.bind_some]
  have out : (s < 0 ∨ s > 13) → arithP s a b = (0, false) := by
    intro h
    unfold arithP
    rw [if_neg (by omega), if_neg (by omega), if_neg (by omega), if_neg (by omega), if_neg (by omega), if_neg (by omega), if_neg (by omega), if_neg (by omega), if_neg (by omega), if_neg (by omega),
      if_neg (by omega), if_neg (by omega), if_neg (by omega), if_neg (by omega)]
  by_cases h0 : s ≥ 0
  · rw [if_pos h0]
    by_cases h1 : s ≤ 13
    · rw [decide_eq_true h1]; exact mid k s _ _ true (can_yes s h0 h1) (.inl rfl)
    · rw [decide_eq_false h1, out (.inr (by omega))]; exact mid k s _ _ false (can_no s (.inr (by omega))) (.inr ⟨rfl, rfl⟩)
  · rw [if_neg h0, out (.inl (by omega))]; exact mid k s _ _ false (can_no s (.inl (by omega))) (.inr ⟨rfl, rfl⟩)

theorem WordSigns : hallmarklaw01_WordSigns.Pure := fun s a b _ _ _ => ⟨0 + 1 + 1, main 0 s a b⟩
end Go.Proofs.Ytddkjckheacecaa.Pure
