/- What is reckoned bit by bit, and what shifts do: proved for all words. -/
import Derived.Test.YtddkjckheacecaaCalcWordBits
namespace Go.Proofs.Ytddkjckheacecaa.Pure
open Go.RowKit Go.Proofs.Ytddkjckheacecaa.PWordBits Go.Proofs.Ytddkjckheacecaa.BaseWordBits Go.Proofs.Ytddkjckheacecaa.CalcWordBits

theorem is_is (k : Nat) (hk : 1 ≤ k) (s a b w : Int) (h : arithP s a b = (w, true)) : hallmarklaw01_is.f k s a b w = some true := by
  unfold hallmarklaw01_is.f
  rw [word_at k hk, Option.bind_some, h, if_pos rfl, beq_self_eq_true]

theorem main (k : Nat) (hk : 310 ≤ k) (a b : Int) (ha : (Lit.int .i64 a).wf = true) (hb : (Lit.int .i64 b).wf = true) : hallmarklaw01_WordBits.f k a b = some true := by
  have e8 : arithP 8 1 65 = (2, true) := by simp [arithP]; unfold wrap64; omega
  have e9 : arithP 9 (-2) 1 = (-1, true) := by simp [arithP]
  unfold hallmarklaw01_WordBits.f
  rw [same_is k hk 5 a b ha hb, Option.bind_some, if_pos rfl, same_is k hk 6 a b ha hb, Option.bind_some, if_pos rfl, same_is k hk 7 a b ha hb, Option.bind_some, if_pos rfl,
    same_is k hk 8 a b ha hb, Option.bind_some, if_pos rfl, same_is k hk 9 a b ha hb, Option.bind_some, if_pos rfl]
  rw [is_is k (by omega) 8 1 65 2 e8, Option.bind_some, if_pos rfl, is_is k (by omega) 9 (-2) 1 (-1) e9, Option.bind_some]

theorem WordBits : hallmarklaw01_WordBits.Pure := fun a b ha hb => ⟨310, main 310 (Nat.le_refl _) a b ha hb⟩
end Go.Proofs.Ytddkjckheacecaa.Pure
