/- What the program's reckoning comes to: one plain function 'arithP'. -/
import Derived.Test.YtddkjckheacecaaPWordChainsx
import Derived.Test.YtddkjckheacecaaBaseWordChains
namespace Go.Proofs.Ytddkjckheacecaa.CalcWordChains
open Go.RowKit Go.Proofs.YtddkjckheacecaaW.PrintWords Go.Proofs.YtddkjckheacecaaW.PrintLast Go.Proofs.YtddkjckheacecaaW.PrintMore Go.Proofs.Ytddkjckheacecaa.PWordChains Go.Proofs.Ytddkjckheacecaa.BaseWordChains

def isTrue (b : Bool) : Int := if b then 1 else 0
/-- what a sign comes to -/
def arithP (s a b : Int) : Int × Bool :=
  if s = 0 then (wrap64 (a + b), true) else if s = 1 then (wrap64 (a - b), true) else if s = 2 then (wrap64 (a * b), true)
  else if s = 3 then (if b = 0 then (0, false) else (wrap64 (Int.tdiv a b), true)) else if s = 4 then (if b = 0 then (0, false) else (Int.tmod a b, true))
  else if s = 5 then (Go.bits .and .i64 a b, true) else if s = 6 then (Go.bits .or .i64 a b, true) else if s = 7 then (Go.bits .xor .i64 a b, true)
  else if s = 8 then (wrap64 (a * 2 ^ (b % 64).toNat), true) else if s = 9 then (a / 2 ^ (b % 64).toNat, true)
  else if s = 10 then (isTrue (decide (a < b)), true) else if s = 11 then (isTrue (decide (a ≤ b)), true) else if s = 12 then (isTrue (a == b), true) else if s = 13 then (isTrue (a != b), true)
  else (0, false)

theorem and63 (b : Int) : Go.bits .and .i64 b 63 = b % 64 := by
  obtain ⟨B, hB, e⟩ := u64_nat b
  have e2 : IntKind.u64.wrap 63 = ((63 : Nat) : Int) := u64_id (by decide) (by decide)
  rw [and_i64 b 63 B 63 e e2]
  have h := Nat.and_two_pow_sub_one_eq_mod B 6
  have h2 : B &&& 63 = B % 64 := h
  rw [h2, wrap_id (by omega) (by omega)]
  rw [u64_wrap] at e
  omega
theorem shl_i64 (a n : Int) (h0 : 0 ≤ n) (h1 : n < 64) : shl .i64 a n = wrap64 (a * 2 ^ n.toNat) := by
  unfold shl
  have e : min n.toNat (IntKind.bits .i64) = n.toNat := by
    show min n.toNat 64 = n.toNat
    omega
  rw [e]; exact i64_w _
theorem shr_i64 (a n : Int) (h0 : 0 ≤ n) (h1 : n < 64) : shr .i64 a n = a / 2 ^ n.toNat := by
  unfold shr
  have e : min n.toNat (IntKind.bits .i64) = n.toNat := by
    show min n.toNat 64 = n.toNat
    omega
  rw [e]
theorem truth_is (b : Bool) : word_truth.f b = some (isTrue b, true) := by cases b <;> rfl
theorem word_is (k : Nat) (s a b : Int) : word_Arith.f (k + 1) s a b = some (arithP s a b) := by
  have h0 : 0 ≤ b % 64 := by omega
  have h1 : b % 64 < 64 := by omega
  unfold word_Arith.f word_arith.f arithP
  simp only [word_arith.j0, truth_is, and63 b, shl_i64 a _ h0 h1, shr_i64 a _ h0 h1, word_divided.f, Option.bind_some, if_pos h0]
  by_cases c0 : s = 0
  · rw [if_pos c0, if_pos c0]; rfl
  rw [if_neg c0, if_neg c0]
  by_cases c1 : s = 1
  · rw [if_pos c1, if_pos c1]; rfl
  rw [if_neg c1, if_neg c1]
  by_cases c2 : s = 2
  · rw [if_pos c2, if_pos c2]; rfl
  rw [if_neg c2, if_neg c2]
  by_cases c3 : s = 3
  · subst c3
    rw [if_pos rfl, if_pos rfl]
    by_cases hz : b = 0
    · simp [hz]
    · simp [hz]
  simp only [if_neg c3]
  by_cases c4 : s = 4
  · subst c4
    by_cases hz : b = 0
    · simp [hz]
    · simp [hz]
  have b4 : (s == 4) = false := beq_eq_false_iff_ne.2 c4
  simp only [if_neg c4, b4, Bool.false_eq_true, if_false]
  by_cases c5 : s = 5
  · rw [if_pos c5, if_pos c5]; rfl
  rw [if_neg c5, if_neg c5]
  by_cases c6 : s = 6
  · rw [if_pos c6, if_pos c6]; rfl
  rw [if_neg c6, if_neg c6]
  by_cases c7 : s = 7
  · rw [if_pos c7, if_pos c7]; rfl
  rw [if_neg c7, if_neg c7]
  by_cases c8 : s = 8
  · rw [if_pos c8, if_pos c8]; rfl
  rw [if_neg c8, if_neg c8]
  by_cases c9 : s = 9
  · rw [if_pos c9, if_pos c9]; rfl
  rw [if_neg c9, if_neg c9]
  by_cases c10 : s = 10
  · rw [if_pos c10, if_pos c10]; rfl
  rw [if_neg c10, if_neg c10]
  by_cases c11 : s = 11
  · rw [if_pos c11, if_pos c11]; rfl
  rw [if_neg c11, if_neg c11]
  by_cases c12 : s = 12
  · rw [if_pos c12, if_pos c12]; rfl
  rw [if_neg c12, if_neg c12]
  by_cases c13 : s = 13
  · rw [if_pos c13, if_pos c13]; rfl
  rw [if_neg c13, if_neg c13]; rfl

theorem word_at (k : Nat) (hk : 1 ≤ k) (s a b : Int) : word_Arith.f k s a b = some (arithP s a b) := by
  obtain ⟨k, rfl⟩ : ∃ m, k = m + 1 := ⟨k - 1, by omega⟩
  exact word_is k s a b
end Go.Proofs.Ytddkjckheacecaa.CalcWordChains
