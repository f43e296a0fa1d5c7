/- What a number by another one is, and what is left: together they are the number again: proved for all words. -/
import Derived.Test.YtddkjckheacecaaCalcWordRests
namespace Go.Proofs.Ytddkjckheacecaa.Pure
open Go.RowKit Go.Proofs.Ytddkjckheacecaa.PWordRests Go.Proofs.Ytddkjckheacecaa.BaseWordRests Go.Proofs.Ytddkjckheacecaa.CalcWordRests

theorem is_is (k : Nat) (hk : 1 ≤ k) (s a b w : Int) (h : arithP s a b = (w, true)) : hallmarklaw01_is.f k s a b w = some true := by
  unfold hallmarklaw01_is.f
  rw [word_at k hk, Option.bind_some, h, if_pos rfl, beq_self_eq_true]

theorem main (k : Nat) (hk : 310 ≤ k) (a b : Int) (ha : (Lit.int .i64 a).wf = true) (hb : (Lit.int .i64 b).wf = true) : hallmarklaw01_WordRests.f (k + 1) a b = some true := by
  have e0 : ∀ x y, arithP 0 x y = (wrap64 (x + y), true) := fun x y => by simp [arithP]
  have e2 : ∀ x y, arithP 2 x y = (wrap64 (x * y), true) := fun x y => by simp [arithP]
  have i3 := is_is k (by omega) 3 (-7) 2 (-3) (by simp [arithP]; unfold wrap64; omega)
  have i4 := is_is k (by omega) 4 (-7) 2 (-1) (by simp [arithP])
  unfold hallmarklaw01_WordRests.f
  rw [word_at _ (by omega), Option.bind_some, word_at _ (by omega), Option.bind_some, same_is _ (by omega) 3 a b ha hb, Option.bind_some, if_pos rfl, same_is _ (by omega) 4 a b ha hb, Option.bind_some, if_pos rfl]
  by_cases hz : b = 0
  · have q : arithP 3 a b = (0, false) := by simp [arithP, hz]
    have r : arithP 4 a b = (0, false) := by simp [arithP, hz]
    have bn : (b != 0) = false := by rw [hz]; rfl
    rw [q, r, if_neg (by simp), bn]
    simp only [hallmarklaw01_WordRests.j0]
    rw [if_neg (by decide), word_at k (by omega), Option.bind_some, if_neg (by decide), i3, Option.bind_some, if_pos rfl, i4, Option.bind_some]
  · have q : arithP 3 a b = (wrap64 (Int.tdiv a b), true) := by simp [arithP, hz]
    have r : arithP 4 a b = (Int.tmod a b, true) := by simp [arithP, hz]
    have bn : (b != 0) = true := bne_iff_ne.2 hz
    have hr := range ha
    rw [q, r, if_neg (by simp), bn]
    simp only [hallmarklaw01_WordRests.j0]
    rw [if_neg (by decide), word_at k (by omega), Option.bind_some, if_pos trivial, e2]
    rw [is_is k (by omega) 0 _ _ a (by rw [e0, wrap_mul_l, wrap_add_l, Int.mul_comm, Int.mul_tdiv_add_tmod, wrap_id hr.1 hr.2]), Option.bind_some, if_pos rfl, i3, Option.bind_some, if_pos rfl, i4, Option.bind_some]

theorem WordRests : hallmarklaw01_WordRests.Pure := fun a b ha hb => ⟨310 + 1, main 310 (Nat.le_refl _) a b ha hb⟩
end Go.Proofs.Ytddkjckheacecaa.Pure
