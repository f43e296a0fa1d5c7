/- Sums and differences wrap, and undo one another: proved for all words. -/
import Derived.Test.YtddkjckheacecaaCalcWordSums
namespace Go.Proofs.Ytddkjckheacecaa.Pure
open Go.RowKit Go.Proofs.Ytddkjckheacecaa.PWordSums Go.Proofs.Ytddkjckheacecaa.BaseWordSums Go.Proofs.Ytddkjckheacecaa.CalcWordSums

theorem is_is (k : Nat) (hk : 1 ≤ k) (s a b w : Int) (h : arithP s a b = (w, true)) : hallmarklaw01_is.f k s a b w = some true := by
  unfold hallmarklaw01_is.f
  rw [word_at k hk, Option.bind_some, h, if_pos rfl, beq_self_eq_true]

theorem main (k : Nat) (hk : 310 ≤ k) (a b : Int) (ha : (Lit.int .i64 a).wf = true) (hb : (Lit.int .i64 b).wf = true) : hallmarklaw01_WordSums.f k a b = some true := by
  have e0 : ∀ x y, arithP 0 x y = (wrap64 (x + y), true) := fun x y => by simp [arithP]
  have e1 : ∀ x y, arithP 1 x y = (wrap64 (x - y), true) := fun x y => by simp [arithP]
  unfold hallmarklaw01_WordSums.f
  rw [word_at k (by omega), Option.bind_some, same_is k hk 0 a b ha hb, Option.bind_some, if_pos rfl, same_is k hk 1 a b ha hb, Option.bind_some, if_pos rfl, e0, if_pos rfl]
  rw [is_is k (by omega) 1 (wrap64 (a + b)) b a (by rw [e1, wrap_sub_l, Int.add_sub_cancel, wrap_id (range ha).1 (range ha).2]), Option.bind_some, if_pos rfl]
  rw [is_is k (by omega) 0 b a _ (by rw [e0, Int.add_comm]), Option.bind_some, if_pos rfl]
  rw [is_is k (by omega) 0 _ _ _ (by rw [e0, show wrap64 (4611686018427387904 + 4611686018427387904) = -9223372036854775808 from by unfold wrap64; omega]), Option.bind_some]

theorem WordSums : hallmarklaw01_WordSums.Pure := fun a b ha hb => ⟨310, main 310 (Nat.le_refl _) a b ha hb⟩
end Go.Proofs.Ytddkjckheacecaa.Pure
