/- Which of two numbers is less, and that just one of less, the same, and greater holds: proved for all words. -/
import Derived.Test.YtddkjckheacecaaCalcWordOrders
namespace Go.Proofs.Ytddkjckheacecaa.Pure
open Go.RowKit Go.Proofs.Ytddkjckheacecaa.PWordOrders Go.Proofs.Ytddkjckheacecaa.BaseWordOrders Go.Proofs.Ytddkjckheacecaa.CalcWordOrders

theorem is_is (k : Nat) (hk : 1 ≤ k) (s a b w : Int) (h : arithP s a b = (w, true)) : hallmarklaw01_is.f k s a b w = some true := by
  unfold hallmarklaw01_is.f
  rw [word_at k hk, Option.bind_some, h, if_pos rfl, beq_self_eq_true]

theorem wrap_small {x : Int} (h0 : 0 ≤ x) (h1 : x ≤ 2) : wrap64 x = x := by unfold wrap64; omega
theorem isTrue_range (b : Bool) : 0 ≤ isTrue b ∧ isTrue b ≤ 1 := by cases b <;> decide

theorem sum_one (l g s : Bool) (h : isTrue l + isTrue g + isTrue s = 1) : wrap64 (wrap64 (isTrue l + isTrue g) + isTrue s) = 1 := by
  have a := isTrue_range l
  have b := isTrue_range g
  have c := isTrue_range s
  rw [wrap_small (x := isTrue l + isTrue g) (by omega) (by omega), h, wrap_small (by decide) (by decide)]

theorem three_ways (a b : Int) : ∃ l g s : Bool, decide (a < b) = l ∧ decide (b < a) = g ∧ (a == b) = s ∧ decide (a ≤ b) = (l || s) ∧ (a != b) = !s ∧
    wrap64 (wrap64 (isTrue l + isTrue g) + isTrue s) = 1 := by
  rcases Int.lt_trichotomy a b with h | h | h
  · exact ⟨true, false, false, decide_eq_true h, decide_eq_false (by omega), beq_eq_false_iff_ne.2 (by omega), decide_eq_true (by omega), bne_iff_ne.2 (by omega), sum_one _ _ _ rfl⟩
  · exact ⟨false, false, true, decide_eq_false (by omega), decide_eq_false (by omega), beq_iff_eq.2 h, decide_eq_true (by omega), bne_eq_false_iff_eq.2 h, sum_one _ _ _ rfl⟩
  · exact ⟨false, true, false, decide_eq_false (by omega), decide_eq_true h, beq_eq_false_iff_ne.2 (by omega), decide_eq_false (by omega), bne_iff_ne.2 (by omega), sum_one _ _ _ rfl⟩

theorem main (k : Nat) (hk : 310 ≤ k) (a b : Int) (ha : (Lit.int .i64 a).wf = true) (hb : (Lit.int .i64 b).wf = true) : hallmarklaw01_WordOrders.f k a b = some true := by
  have e10 : ∀ x y, arithP 10 x y = (isTrue (decide (x < y)), true) := fun x y => by simp [arithP]
  have e11 : ∀ x y, arithP 11 x y = (isTrue (decide (x ≤ y)), true) := fun x y => by simp [arithP]
  have e12 : ∀ x y, arithP 12 x y = (isTrue (x == y), true) := fun x y => by simp [arithP]
  have e13 : ∀ x y, arithP 13 x y = (isTrue (x != y), true) := fun x y => by simp [arithP]
  obtain ⟨l, g, s, hl, hg, hs, hm, hn, hsum⟩ := three_ways a b
  unfold hallmarklaw01_WordOrders.f
  rw [word_at k (by omega), Option.bind_some, word_at k (by omega), Option.bind_some, word_at k (by omega), Option.bind_some,
    same_is k hk 10 a b ha hb, Option.bind_some, if_pos rfl, same_is k hk 11 a b ha hb, Option.bind_some, if_pos rfl, same_is k hk 12 a b ha hb, Option.bind_some, if_pos rfl,
    same_is k hk 13 a b ha hb, Option.bind_some, if_pos rfl, e10, e10, e12, hl, hg, hs, if_pos hsum]
  have h11 : arithP 11 a b = (wrap64 (isTrue l + isTrue s), true) := by
    have hls : isTrue (l || s) = isTrue l + isTrue s := by
      cases l <;> cases s <;> first | rfl | (exfalso; have := of_decide_eq_true hl; have := eq_of_beq hs; omega)
    have x := isTrue_range l
    have y := isTrue_range s
    rw [e11, hm, hls, wrap_small (by omega) (by omega)]
  have h13 : arithP 13 a b = (wrap64 (1 - isTrue s), true) := by
    have hns : isTrue (!s) = 1 - isTrue s := by cases s <;> rfl
    have y := isTrue_range s
    rw [e13, hn, hns, wrap_small (by omega) (by omega)]
  rw [is_is k (by omega) 11 a b _ h11, Option.bind_some, if_pos rfl, is_is k (by omega) 13 a b _ h13, Option.bind_some]

theorem WordOrders : hallmarklaw01_WordOrders.Pure := fun a b ha hb => ⟨310, main 310 (Nat.le_refl _) a b ha hb⟩
end Go.Proofs.Ytddkjckheacecaa.Pure
