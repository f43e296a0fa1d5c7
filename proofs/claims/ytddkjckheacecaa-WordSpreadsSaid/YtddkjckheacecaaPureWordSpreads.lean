/- A product of a sum is the sum of both products: proved for all words. -/
import Derived.Test.YtddkjckheacecaaArithWordSpreads
namespace Go.Proofs.Ytddkjckheacecaa.Pure
open Go.RowKit Go.Proofs.Ytddkjckheacecaa.PWordSpreads Go.Proofs.Ytddkjckheacecaa.BaseWordSpreads Go.Proofs.Ytddkjckheacecaa.CalcWordSpreads

theorem is_is (k : Nat) (hk : 1 ≤ k) (s a b w : Int) (h : arithP s a b = (w, true)) : hallmarklaw01_is.f k s a b w = some true := by
  unfold hallmarklaw01_is.f
  rw [word_at k hk, Option.bind_some, h, if_pos rfl, beq_self_eq_true]

theorem main (k : Nat) (hk : 1 ≤ k) (a b c : Int) : hallmarklaw01_WordSpreads.f k a b c = some true := by
  have e0 : ∀ x y, arithP 0 x y = (wrap64 (x + y), true) := fun x y => by simp [arithP]
  have e2 : ∀ x y, arithP 2 x y = (wrap64 (x * y), true) := fun x y => by simp [arithP]
  unfold hallmarklaw01_WordSpreads.f
  rw [word_at k hk, Option.bind_some, word_at k hk, Option.bind_some, word_at k hk, Option.bind_some, word_at k hk, Option.bind_some, e0, e2, e2, e0, if_pos rfl]
  rw [is_is k hk 2 _ c _ (by rw [e2, wrap_mul_l, wrap_add_l, wrap_add_r, Int.add_mul]), Option.bind_some, if_pos rfl, is_is k hk 2 3 5 15 (by rw [e2, show wrap64 (3 * 5) = 15 from by unfold wrap64; omega]), Option.bind_some]

theorem WordSpreads : hallmarklaw01_WordSpreads.Pure := fun a b c _ _ _ => ⟨1, main 1 (Nat.le_refl _) a b c⟩
end Go.Proofs.Ytddkjckheacecaa.Pure
