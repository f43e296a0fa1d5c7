/- The reference's size of a number, plainly. -/
import Derived.Test.YtojmepkhbebllaaDoorBaseShowProgs
import Derived.Test.YtojmepkhbebllaaDoorPShowProgsx
namespace Go.Proofs.YtojmepkhbebllaaDoor.SizeShowProgs
open Go.RowKit Go.Proofs.YtojmepkhbebllaaDoorW.PrintWords Go.Proofs.YtojmepkhbebllaaDoorW.PrintLast Go.Proofs.YtojmepkhbebllaaDoorW.PrintMore Go.Proofs.YtojmepkhbebllaaDoor.PShowProgs Go.Proofs.YtojmepkhbebllaaDoor.BaseShowProgs

theorem bit_is (X i : Nat) (hi : i < 64) : hallmarkref01_Bit.f (X : Int) (i : Int) = some ((X / 2 ^ i % 2 : Nat) : Int) := by
  unfold hallmarkref01_Bit.f
  rw [u64_id (by omega) (by omega), if_pos (by omega), shr_u64 X i (by omega)]
  exact congrArg some (Int.ofNat_tmod _ _).symm

theorem carry (p X Y O C bx by_ : Nat) (hbx : bx < 2) (hby : by_ < 2) (hC : C ≤ 1) (h : O + C * p = X + Y) (hO : O < p) :
    O + (bx + by_ + C) % 2 * p < p * 2 ∧ (O + (bx + by_ + C) % 2 * p) + (bx + by_ + C) / 2 * (p * 2) = X + bx * p + (Y + by_ * p) ∧ (bx + by_ + C) / 2 ≤ 1 := by
  have h1 : bx = 0 ∨ bx = 1 := by omega
  have h2 : by_ = 0 ∨ by_ = 1 := by omega
  have h3 : C = 0 ∨ C = 1 := by omega
  rcases h1 with rfl | rfl <;> rcases h2 with rfl | rfl <;> rcases h3 with rfl | rfl <;> simp at h ⊢ <;> omega

theorem next_i (i : Nat) (h : i < 64) : wrap64 ((i : Int) + 1) = ((i + 1 : Nat) : Int) := by rw [wrap_id (by omega) (by omega)]; omega
theorem u64_i (i : Nat) (h : i ≤ 64) : IntKind.u64.wrap (i : Int) = (i : Int) := u64_id (by omega) (by omega)
theorem three (bx by_ C : Nat) (hbx : bx < 2) (hby : by_ < 2) (hC : C ≤ 1) : IntKind.u64.wrap (IntKind.u64.wrap ((bx : Int) + (by_ : Int)) + (C : Int)) = ((bx + by_ + C : Nat) : Int) := by
  rw [u64_id (n := (bx : Int) + (by_ : Int)) (by omega) (by omega), u64_id (by omega) (by omega)]; omega
theorem or_shl (O s i : Nat) (hi : i < 64) (hO : O < 2 ^ i) (hs : s ≤ 1) : Go.bits .or .u64 (O : Int) (shl .u64 (s : Int) (i : Int)) = ((O + s * 2 ^ i : Nat) : Int) := by
  have hp : (2 : Nat) ^ i * 2 ≤ 18446744073709551616 := by rw [← Nat.pow_succ]; exact pow_le (by omega)
  have hlt : s * 2 ^ i < 18446744073709551616 := by
    have := Nat.mul_le_mul_right (2 ^ i) hs
    omega
  rw [shl_u64 s i (by omega), Nat.mod_eq_of_lt hlt, or_nat O (s * 2 ^ i) (by omega) hlt, or_join O s i hO]

theorem plus_l (X Y : Nat) (hX : X < 18446744073709551616) (hY : Y < 18446744073709551616) : ∀ (d k i O C : Nat), i + d = 64 → d < k → O < 2 ^ i → C ≤ 1 → O + C * 2 ^ i = X % 2 ^ i + Y % 2 ^ i →
    hallmarkref01_plus.l0 k (X : Int) (Y : Int) (O : Int) (C : Int) (i : Int) = some (((X + Y) % 18446744073709551616 : Nat) : Int) := by
  intro d
  induction d with
  | zero =>
    intro k i O C hi hk hO hC h
    obtain ⟨k, rfl⟩ : ∃ m, k = m + 1 := ⟨k - 1, by omega⟩
    obtain rfl : i = 64 := by omega
    simp only [hallmarkref01_plus.l0]
    rw [if_neg (by omega)]
    rw [pow64] at hO h
    exact congrArg some (by omega)
  | succ d ih =>
    intro k i O C hi hk hO hC h
    obtain ⟨k, rfl⟩ : ∃ m, k = m + 1 := ⟨k - 1, by omega⟩
    simp only [hallmarkref01_plus.l0]
    rw [if_pos (by omega), bit_is X i (by omega), bit_is Y i (by omega), Option.bind_some, Option.bind_some]
    have hi64 : i < 64 := by omega
    have hk1 : d < k := by omega
    have hi1 : i + 1 + d = 64 := by omega
    obtain ⟨bx, ebx⟩ : ∃ b, X / 2 ^ i % 2 = b := ⟨_, rfl⟩
    obtain ⟨by_, eby⟩ : ∃ b, Y / 2 ^ i % 2 = b := ⟨_, rfl⟩
    have hbx : bx < 2 := ebx ▸ bit_lt X i
    have hby : by_ < 2 := eby ▸ bit_lt Y i
    obtain ⟨c1, c2, c3⟩ := carry (2 ^ i) (X % 2 ^ i) (Y % 2 ^ i) O C bx by_ hbx hby hC h hO
    have e4 := next_i i hi64
    have e5 := u64_i i (Nat.le_of_lt hi64)
    rw [ebx, eby]
    have e1 := three bx by_ C hbx hby hC
    have e2 : Int.tmod ((bx + by_ + C : Nat) : Int) 2 = (((bx + by_ + C) % 2 : Nat) : Int) := (Int.ofNat_tmod _ 2).symm
    have e3 : Int.tdiv ((bx + by_ + C : Nat) : Int) 2 = (((bx + by_ + C) / 2 : Nat) : Int) := (Int.ofNat_tdiv _ 2).symm
    rw [e1, e2, e3, e4]
    have hs1 : (bx + by_ + C) % 2 ≤ 1 := Nat.le_of_lt_succ (Nat.mod_lt _ (by decide))
    generalize (bx + by_ + C) % 2 = s1 at *
    generalize (bx + by_ + C) / 2 = s2 at *
    have e6 := u64_i s2 (Nat.le_trans c3 (by decide))
    have e7 := or_shl O s1 i hi64 hO hs1
    rw [e5, e6, e7, if_pos (Int.natCast_nonneg i)]
    refine ih k (i + 1) _ _ hi1 hk1 ?_ c3 ?_
    · rw [Nat.pow_succ]; exact c1
    · rw [mod_step X i, mod_step Y i, ebx, eby, Nat.pow_succ]; exact c2

theorem plus_is (X Y : Nat) (hX : X < 18446744073709551616) (hY : Y < 18446744073709551616) (k : Nat) (hk : 65 ≤ k) : hallmarkref01_plus.f k (X : Int) (Y : Int) = some (((X + Y) % 18446744073709551616 : Nat) : Int) := by
  unfold hallmarkref01_plus.f
  exact plus_l X Y hX hY 64 k 0 0 0 (by omega) (by omega) (by decide) (by omega) (by simp [Nat.mod_one])

theorem minus_is (X : Nat) (hX : X < 18446744073709551616) (k : Nat) (hk : 65 ≤ k) : hallmarkref01_minus.f k (X : Int) = some (((18446744073709551616 - X) % 18446744073709551616 : Nat) : Int) := by
  unfold hallmarkref01_minus.f
  have e0 : (18446744073709551615 : Int) = ((18446744073709551615 : Nat) : Int) := by omega
  have e1 : (1 : Int) = ((1 : Nat) : Int) := rfl
  rw [e0, xor_nat X _ hX (by omega), xor_all X hX, e1, plus_is _ 1 (by omega) (by omega) k hk, Option.bind_some]
  exact congrArg some (by omega)

theorem size_is (a : Int) (ha : -9223372036854775808 ≤ a ∧ a < 9223372036854775808) (k : Nat) (hk : 65 ≤ k) : hallmarkref01_Size.f k a = some (a.natAbs : Int) := by
  unfold hallmarkref01_Size.f
  by_cases h : a < 0
  · have e : IntKind.u64.wrap a = ((18446744073709551616 - a.natAbs : Nat) : Int) := by rw [u64_wrap]; omega
    rw [if_pos h, e, minus_is _ (by omega) k hk, Option.bind_some]
    exact congrArg some (by omega)
  · rw [if_neg h, u64_id (by omega) (by omega)]
    exact congrArg some (by omega)
end Go.Proofs.YtojmepkhbebllaaDoor.SizeShowProgs
