/- Products wrap, in any order: proved for all words. -/
import Derived.Test.YtddkjckheacecaaCalcWordProducts
namespace Go.Proofs.Ytddkjckheacecaa.Pure
open Go.RowKit Go.Proofs.Ytddkjckheacecaa.PWordProducts Go.Proofs.Ytddkjckheacecaa.BaseWordProducts Go.Proofs.Ytddkjckheacecaa.CalcWordProducts

theorem is_is (k : Nat) (hk : 1 ≤ k) (s a b w : Int) (h : arithP s a b = (w, true)) : hallmarklaw01_is.f k s a b w = some true := by
  unfold hallmarklaw01_is.f
  rw [word_at k hk, Option.bind_some, h, if_pos rfl, beq_self_eq_true]

theorem main (k : Nat) (hk : 310 ≤ k) (a b : Int) (ha : (Lit.int .i64 a).wf = true) (hb : (Lit.int .i64 b).wf = true) : hallmarklaw01_WordProducts.f k a b = some true := by
  have e2 : ∀ x y, arithP 2 x y = (wrap64 (x * y), true) := fun x y => by simp [arithP]
  unfold hallmarklaw01_WordProducts.f
  rw [word_at k (by omega), Option.bind_some, same_is k hk 2 a b ha hb, Option.bind_some, if_pos rfl, e2, if_pos rfl]
  rw [is_is k (by omega) 2 b a _ (by rw [e2, Int.mul_comm]), Option.bind_some, if_pos rfl]
  rw [is_is k (by omega) 2 _ _ _ (by rw [e2, show wrap64 (4611686018427387904 * 2) = -9223372036854775808 from by unfold wrap64; omega]), Option.bind_some]

theorem WordProducts : hallmarklaw01_WordProducts.Pure := fun a b ha hb => ⟨310, main 310 (Nat.le_refl _) a b ha hb⟩
end Go.Proofs.Ytddkjckheacecaa.Pure
