/- A shift up is a product with a power of two, and that one down undoes it, where no bit goes: proved for all words and counts. -/
import Derived.Test.YtddkjckheacecaaArithWordShifts
namespace Go.Proofs.Ytddkjckheacecaa.Pure
open Go.RowKit Go.Proofs.YtddkjckheacecaaW.PrintWords Go.Proofs.YtddkjckheacecaaW.PrintLast Go.Proofs.YtddkjckheacecaaW.PrintMore Go.Proofs.Ytddkjckheacecaa.PWordShifts Go.Proofs.Ytddkjckheacecaa.BaseWordShifts Go.Proofs.Ytddkjckheacecaa.CalcWordShifts

theorem is_is (k : Nat) (hk : 1 ≤ k) (s a b w : Int) (h : arithP s a b = (w, true)) : hallmarklaw01_is.f k s a b w = some true := by
  unfold hallmarklaw01_is.f
  rw [word_at k hk, Option.bind_some, h, if_pos rfl, beq_self_eq_true]

theorem floor_range (a : Int) (n : Nat) (hn : n < 63) (h0 : -9223372036854775808 ≤ a) (h1 : a < 9223372036854775808) :
    -9223372036854775808 ≤ a / 2 ^ n * 2 ^ n ∧ a / 2 ^ n * 2 ^ n < 9223372036854775808 := by
  have hp : (0 : Int) < 2 ^ n := Int.pow_pos (by decide)
  have hle : a / 2 ^ n * 2 ^ n ≤ a := Int.ediv_mul_le a (Int.ne_of_gt hp)
  have e : (2 : Int) ^ (63 - n) * 2 ^ n = 9223372036854775808 := by
    rw [← Int.pow_add, Nat.sub_add_cancel (by omega)]; decide
  have hd : -(2 : Int) ^ (63 - n) ≤ a / 2 ^ n := by
    refine (Int.le_ediv_iff_mul_le hp).2 ?_
    rw [Int.neg_mul, e]; exact h0
  have hm := Int.mul_le_mul_of_nonneg_right hd (Int.le_of_lt hp)
  rw [Int.neg_mul, e] at hm
  exact ⟨hm, Int.lt_of_le_of_lt hle h1⟩

theorem main (k : Nat) (hk : 1 ≤ k) (a by_ : Int) (ha : (Lit.int .i64 a).wf = true) (hb : (Lit.int .u8 by_).wf = true) : hallmarklaw01_WordShifts.f (k + 1) a by_ = some true := by
  have hr := range ha
  have hu : 0 ≤ by_ ∧ by_ ≤ 255 := by
    simp [Lit.wf, IntKind.min, IntKind.max, IntKind.signed, IntKind.bits] at hb
    omega
  obtain ⟨B, rfl⟩ := Int.eq_ofNat_of_zero_le hu.1
  obtain ⟨n, hn⟩ : ∃ n, B % 63 = n := ⟨_, rfl⟩
  have hlt : n < 63 := hn ▸ Nat.mod_lt _ (by decide)
  have hlt1 : (n : Int) + 64 < 9223372036854775808 := by omega
  have g1 : -9223372036854775808 ≤ (n : Int) := by omega
  have g2 : (n : Int) < 9223372036854775808 := by omega
  have g3 : -9223372036854775808 ≤ (n : Int) + 64 := by omega
  have g4 : (n : Int) < 18446744073709551616 := by omega
  have hnm : ((n : Int) % 64).toNat = n := by omega
  have hnm2 : (((n : Int) + 64) % 64).toNat = n := by omega
  have hn0 : (0 : Int) ≤ (n : Int) := Int.natCast_nonneg n
  have hn64 : (n : Int) < 64 := by omega
  have hfl := floor_range a n hlt hr.1 hr.2
  have hp : (2 : Int) ^ n ≠ 0 := Int.ne_of_gt (Int.pow_pos (by decide))
  have et : Int.tmod (B : Int) 63 = (n : Int) := by rw [← hn]; exact (Int.ofNat_tmod B 63).symm
  have ew : wrap64 (n : Int) = (n : Int) := wrap_id g1 g2
  have ew2 : wrap64 ((n : Int) + 64) = (n : Int) + 64 := wrap_id g3 hlt1
  have eu : IntKind.u64.wrap (n : Int) = (n : Int) := u64_id hn0 g4
  have es : shl .i64 1 (n : Int) = wrap64 (1 * 2 ^ n) := by rw [shl_i64 1 _ hn0 hn64, Int.toNat_natCast]
  have er : shr .i64 a (n : Int) = a / 2 ^ n := by rw [shr_i64 a _ hn0 hn64, Int.toNat_natCast]
  have e2 : ∀ x y, arithP 2 x y = (wrap64 (x * y), true) := fun x y => by simp [arithP]
  have e8 : ∀ x y, arithP 8 x y = (wrap64 (x * 2 ^ (y % 64).toNat), true) := fun x y => by simp [arithP]
  have e9 : ∀ x y, arithP 9 x y = (x / 2 ^ (y % 64).toNat, true) := fun x y => by simp [arithP]
  unfold hallmarklaw01_WordShifts.f
  rw [et, ew, eu, if_pos hn0, word_at _ (by exact Nat.le_add_left 1 k), Option.bind_some, e2, if_pos rfl, es, ew2, wrap_mul_r, Int.one_mul]
  rw [is_is _ (by exact Nat.le_add_left 1 k) 8 a (n : Int) _ (by rw [e8, hnm]), Option.bind_some, if_pos rfl, is_is _ (by exact Nat.le_add_left 1 k) 8 a ((n : Int) + 64) _ (by rw [e8, hnm2]), Option.bind_some]
  simp only [hallmarklaw01_WordShifts.j0]
  rw [if_neg (by decide), eu, if_pos hn0, er, word_at k hk, Option.bind_some, e8, hnm, wrap_id hfl.1 hfl.2]
  rw [is_is k hk 9 _ (n : Int) _ (by rw [e9, hnm, Int.mul_ediv_cancel _ hp]), Option.bind_some, if_pos rfl, is_is k hk 9 a (n : Int) _ (by rw [e9, hnm]), Option.bind_some]

theorem WordShifts : hallmarklaw01_WordShifts.Pure := fun a b ha hb => ⟨1 + 1, main 1 (Nat.le_refl _) a b ha hb⟩
end Go.Proofs.Ytddkjckheacecaa.Pure
