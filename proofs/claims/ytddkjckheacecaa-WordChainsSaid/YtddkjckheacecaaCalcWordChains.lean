/- What the reference's functions of layer 1 come to: the plain function 'arithP'. -/
import Derived.Test.YtddkjckheacecaaArithWordChains
import Derived.Test.YtddkjckheacecaaBaseWordChains
namespace Go.Proofs.Ytddkjckheacecaa.CalcWordChains
open Go.RowKit Go.Proofs.YtddkjckheacecaaW.PrintWords Go.Proofs.YtddkjckheacecaaW.PrintLast Go.Proofs.YtddkjckheacecaaW.PrintMore Go.Proofs.Ytddkjckheacecaa.PWordChains Go.Proofs.Ytddkjckheacecaa.BaseWordChains

theorem bit_is (X i : Nat) (hi : i < 64) : hallmarkref01_Bit.f (X : Int) (i : Int) = some ((X / 2 ^ i % 2 : Nat) : Int) := by
  unfold hallmarkref01_Bit.f
  rw [u64_id (by omega) (by omega), if_pos (by omega), shr_u64 X i (by omega)]
  exact congrArg some (Int.ofNat_tmod _ _).symm

theorem carry (p X Y O C bx by_ : Nat) (hbx : bx < 2) (hby : by_ < 2) (hC : C ≤ 1) (h : O + C * p = X + Y) (hO : O < p) :
    O + (bx + by_ + C) % 2 * p < p * 2 ∧ (O + (bx + by_ + C) % 2 * p) + (bx + by_ + C) / 2 * (p * 2) = X + bx * p + (Y + by_ * p) ∧ (bx + by_ + C) / 2 ≤ 1 := by
  have h1 : bx = 0 ∨ bx = 1 := by omega
  have h2 : by_ = 0 ∨ by_ = 1 := by omega
  have h3 : C = 0 ∨ C = 1 := by omega
  rcases h1 with rfl | rfl <;> rcases h2 with rfl | rfl <;> rcases h3 with rfl | rfl <;> simp at h ⊢ <;> omega

theorem next_i (i : Nat) (h : i < 64) : wrap64 ((i : Int) + 1) = ((i + 1 : Nat) : Int) := by rw [wrap_id (by omega) (by omega)]; omega
theorem u64_i (i : Nat) (h : i ≤ 64) : IntKind.u64.wrap (i : Int) = (i : Int) := u64_id (by omega) (by omega)
theorem three (bx by_ C : Nat) (hbx : bx < 2) (hby : by_ < 2) (hC : C ≤ 1) : IntKind.u64.wrap (IntKind.u64.wrap ((bx : Int) + (by_ : Int)) + (C : Int)) = ((bx + by_ + C : Nat) : Int) := by
  rw [u64_id (n := (bx : Int) + (by_ : Int)) (by omega) (by omega), u64_id (by omega) (by omega)]; omega
theorem or_shl (O s i : Nat) (hi : i < 64) (hO : O < 2 ^ i) (hs : s ≤ 1) : Go.bits .or .u64 (O : Int) (shl .u64 (s : Int) (i : Int)) = ((O + s * 2 ^ i : Nat) : Int) := by
  have hp : (2 : Nat) ^ i * 2 ≤ 18446744073709551616 := by rw [← Nat.pow_succ]; exact pow_le (by omega)
  have hlt : s * 2 ^ i < 18446744073709551616 := by
    have := Nat.mul_le_mul_right (2 ^ i) hs
    omega
  rw [shl_u64 s i (by omega), Nat.mod_eq_of_lt hlt, or_nat O (s * 2 ^ i) (by omega) hlt, or_join O s i hO]

theorem plus_l (X Y : Nat) (hX : X < 18446744073709551616) (hY : Y < 18446744073709551616) : ∀ (d k i O C : Nat), i + d = 64 → d < k → O < 2 ^ i → C ≤ 1 → O + C * 2 ^ i = X % 2 ^ i + Y % 2 ^ i →
    hallmarkref01_plus.l0 k (X : Int) (Y : Int) (O : Int) (C : Int) (i : Int) = some (((X + Y) % 18446744073709551616 : Nat) : Int) := by
  intro d
  induction d with
  | zero =>
    intro k i O C hi hk hO hC h
    obtain ⟨k, rfl⟩ : ∃ m, k = m + 1 := ⟨k - 1, by omega⟩
    obtain rfl : i = 64 := by omega
    simp only [hallmarkref01_plus.l0]
    rw [if_neg (by omega)]
    rw [pow64] at hO h
    exact congrArg some (by omega)
  | succ d ih =>
    intro k i O C hi hk hO hC h
    obtain ⟨k, rfl⟩ : ∃ m, k = m + 1 := ⟨k - 1, by omega⟩
    simp only [hallmarkref01_plus.l0]
    rw [if_pos (by omega), bit_is X i (by omega), bit_is Y i (by omega), Option.bind_some, Option.bind_some]
    have hi64 : i < 64 := by omega
    have hk1 : d < k := by omega
    have hi1 : i + 1 + d = 64 := by omega
    obtain ⟨bx, ebx⟩ : ∃ b, X / 2 ^ i % 2 = b := ⟨_, rfl⟩
    obtain ⟨by_, eby⟩ : ∃ b, Y / 2 ^ i % 2 = b := ⟨_, rfl⟩
    have hbx : bx < 2 := ebx ▸ bit_lt X i
    have hby : by_ < 2 := eby ▸ bit_lt Y i
    obtain ⟨c1, c2, c3⟩ := carry (2 ^ i) (X % 2 ^ i) (Y % 2 ^ i) O C bx by_ hbx hby hC h hO
    have e4 := next_i i hi64
    have e5 := u64_i i (Nat.le_of_lt hi64)
    rw [ebx, eby]
    have e1 := three bx by_ C hbx hby hC
    have e2 : Int.tmod ((bx + by_ + C : Nat) : Int) 2 = (((bx + by_ + C) % 2 : Nat) : Int) := (Int.ofNat_tmod _ 2).symm
    have e3 : Int.tdiv ((bx + by_ + C : Nat) : Int) 2 = (((bx + by_ + C) / 2 : Nat) : Int) := (Int.ofNat_tdiv _ 2).symm
    rw [e1, e2, e3, e4]
    have hs1 : (bx + by_ + C) % 2 ≤ 1 := Nat.le_of_lt_succ (Nat.mod_lt _ (by decide))
    generalize (bx + by_ + C) % 2 = s1 at *
    generalize (bx + by_ + C) / 2 = s2 at *
    have e6 := u64_i s2 (Nat.le_trans c3 (by decide))
    have e7 := or_shl O s1 i hi64 hO hs1
    rw [e5, e6, e7, if_pos (Int.natCast_nonneg i)]
    refine ih k (i + 1) _ _ hi1 hk1 ?_ c3 ?_
    · rw [Nat.pow_succ]; exact c1
    · rw [mod_step X i, mod_step Y i, ebx, eby, Nat.pow_succ]; exact c2

theorem plus_is (X Y : Nat) (hX : X < 18446744073709551616) (hY : Y < 18446744073709551616) (k : Nat) (hk : 65 ≤ k) : hallmarkref01_plus.f k (X : Int) (Y : Int) = some (((X + Y) % 18446744073709551616 : Nat) : Int) := by
  unfold hallmarkref01_plus.f
  exact plus_l X Y hX hY 64 k 0 0 0 (by omega) (by omega) (by decide) (by omega) (by simp [Nat.mod_one])

theorem minus_is (X : Nat) (hX : X < 18446744073709551616) (k : Nat) (hk : 65 ≤ k) : hallmarkref01_minus.f k (X : Int) = some (((18446744073709551616 - X) % 18446744073709551616 : Nat) : Int) := by
  unfold hallmarkref01_minus.f
  have e0 : (18446744073709551615 : Int) = ((18446744073709551615 : Nat) : Int) := by omega
  have e1 : (1 : Int) = ((1 : Nat) : Int) := rfl
  rw [e0, xor_nat X _ hX (by omega), xor_all X hX, e1, plus_is _ 1 (by omega) (by omega) k hk, Option.bind_some]
  exact congrArg some (by omega)

theorem times_l (X Y : Nat) (hY : Y < 18446744073709551616) : ∀ (d k i O : Nat), i + d = 64 → d + 65 < k → O = X * (Y % 2 ^ i) % 18446744073709551616 →
    hallmarkref01_times.l0 k (X : Int) (Y : Int) (O : Int) (i : Int) = some ((X * Y % 18446744073709551616 : Nat) : Int) := by
  intro d
  induction d with
  | zero =>
    intro k i O hi hk hO
    obtain ⟨k, rfl⟩ : ∃ m, k = m + 1 := ⟨k - 1, by omega⟩
    obtain rfl : i = 64 := by omega
    simp only [hallmarkref01_times.l0]
    rw [if_neg (by omega), hO, pow64, Nat.mod_eq_of_lt hY]
  | succ d ih =>
    intro k i O hi hk hO
    obtain ⟨k, rfl⟩ : ∃ m, k = m + 1 := ⟨k - 1, by omega⟩
    have hlt : O < 18446744073709551616 := by rw [hO]; exact Nat.mod_lt _ (by omega)
    simp only [hallmarkref01_times.l0]
    rw [if_pos (by omega), bit_is Y i (by omega), Option.bind_some]
    have e4 : wrap64 ((i : Int) + 1) = ((i + 1 : Nat) : Int) := by rw [wrap_id (by omega) (by omega)]; omega
    have hb := bit_lt Y i
    have hm := mod_step Y i
    rw [e4]
    by_cases h1 : Y / 2 ^ i % 2 = 1
    · rw [if_pos (by omega), u64_id (n := (i : Int)) (by omega) (by omega), if_pos (by omega), shl_u64 X i (by omega),
        plus_is O _ hlt (Nat.mod_lt _ (by omega)) k (by omega), Option.bind_some]
      refine ih k (i + 1) _ (by omega) (by omega) ?_
      rw [hm, h1, Nat.one_mul, Nat.mul_add, hO]
      exact (Nat.add_mod _ _ _).symm
    · rw [if_neg (by omega)]
      refine ih k (i + 1) _ (by omega) (by omega) ?_
      have h0 : Y / 2 ^ i % 2 = 0 := by omega
      rw [hm, h0, Nat.zero_mul, Nat.add_zero]
      exact hO

theorem times_is (X Y : Nat) (hY : Y < 18446744073709551616) (k : Nat) (hk : 130 ≤ k) : hallmarkref01_times.f k (X : Int) (Y : Int) = some ((X * Y % 18446744073709551616 : Nat) : Int) := by
  unfold hallmarkref01_times.f
  exact times_l X Y hY 64 k 0 0 (by omega) (by omega) (by simp [Nat.mod_one])

theorem size_is (a : Int) (ha : -9223372036854775808 ≤ a ∧ a < 9223372036854775808) (k : Nat) (hk : 65 ≤ k) : hallmarkref01_Size.f k a = some (a.natAbs : Int) := by
  unfold hallmarkref01_Size.f
  by_cases h : a < 0
  · have e : IntKind.u64.wrap a = ((18446744073709551616 - a.natAbs : Nat) : Int) := by rw [u64_wrap]; omega
    rw [if_pos h, e, minus_is _ (by omega) k hk, Option.bind_some]
    exact congrArg some (by omega)
  · rw [if_neg h, u64_id (by omega) (by omega)]
    exact congrArg some (by omega)

theorem two_mul_div (q d r b : Nat) : 2 * (q * d + r) + b = q * 2 * d + (r * 2 + b) := by
  rw [Nat.mul_right_comm q 2 d]; omega

theorem divide_l (X d : Nat) (hX : X < 18446744073709551616) (hd : 0 < d) (hd2 : d ≤ 9223372036854775808) : ∀ (n k q r : Nat), n ≤ 64 → 2 * n + 140 < k → r < d → X / 2 ^ n = q * d + r →
    hallmarkref01_divide.l0 k (X : Int) (d : Int) (q : Int) (r : Int) ((n : Int) - 1) = some (((X / d : Nat) : Int), ((X % d : Nat) : Int)) := by
  intro n
  induction n with
  | zero =>
    intro k q r hn hk hr h
    obtain ⟨k, rfl⟩ : ∃ m, k = m + 1 := ⟨k - 1, by omega⟩
    simp only [hallmarkref01_divide.l0]
    rw [if_neg (by omega)]
    rw [Nat.pow_zero, Nat.div_one] at h
    have h1 : X / d = q := by rw [h, Nat.mul_comm, Nat.mul_add_div hd, Nat.div_eq_of_lt hr]; rfl
    have h2 : X % d = r := by rw [h, Nat.mul_comm, Nat.mul_add_mod, Nat.mod_eq_of_lt hr]
    rw [h1, h2]
  | succ n ih =>
    intro k q r hn hk hr h
    obtain ⟨k, rfl⟩ : ∃ m, k = m + 1 + 1 := ⟨k - 2, by omega⟩
    have ei : (((n + 1 : Nat) : Int) - 1) = (n : Int) := by omega
    have hs := div_step X n
    have hle : X / 2 ^ n ≤ X := Nat.div_le_self _ _
    have hqd : q ≤ q * d := Nat.le_mul_of_pos_right q hd
    obtain ⟨b, eb⟩ : ∃ b, X / 2 ^ n % 2 = b := ⟨_, rfl⟩
    have hb : b < 2 := eb ▸ bit_lt X n
    rw [eb, h, two_mul_div] at hs
    have hq2 : q * 2 ≤ q * 2 * d := Nat.le_mul_of_pos_right _ hd
    rw [ei]
    simp only [hallmarkref01_divide.l0]
    rw [if_pos (by omega), bit_is X n (by omega), Option.bind_some, eb, if_neg (by omega)]
    have e1 : IntKind.u64.wrap ((q : Int) * 2) = ((q * 2 : Nat) : Int) := by rw [u64_id (by omega) (by omega)]; omega
    have e2 : IntKind.u64.wrap ((r : Int) * 2) = ((r * 2 : Nat) : Int) := by rw [u64_id (by omega) (by omega)]; omega
    have e3 : wrap64 ((n : Int) - 1) = (n : Int) - 1 := wrap_id (by omega) (by omega)
    rw [e1, e2, or_nat (r * 2) b (by omega) (by omega), or_one r b hb]
    simp only [hallmarkref01_divide.j1]
    rw [e3]
    by_cases hge : d ≤ r * 2 + b
    · rw [if_pos (decide_eq_true (by omega)), minus_is d (by omega) k (by omega), Option.bind_some, plus_is _ _ (by omega) (Nat.mod_lt _ (by omega)) k (by omega), Option.bind_some]
      have e4 : (1 : Int) = ((1 : Nat) : Int) := rfl
      have e5 : (r * 2 + b + (18446744073709551616 - d) % 18446744073709551616) % 18446744073709551616 = r * 2 + b - d := by omega
      rw [e4, or_nat (q * 2) 1 (by omega) (by omega), or_one q 1 (by omega), e5]
      refine ih k _ _ (by omega) (by omega) (by omega) ?_
      rw [hs, Nat.add_mul (q * 2) 1 d, Nat.one_mul]; omega
    · rw [if_neg (by rw [decide_eq_true_eq]; omega)]
      exact ih k _ _ (by omega) (by omega) (by omega) hs

theorem divide_is (X d : Nat) (hX : X < 18446744073709551616) (hd : 0 < d) (hd2 : d ≤ 9223372036854775808) (k : Nat) (hk : 270 ≤ k) :
    hallmarkref01_divide.f k (X : Int) (d : Int) = some (((X / d : Nat) : Int), ((X % d : Nat) : Int)) := by
  unfold hallmarkref01_divide.f
  have := divide_l X d hX hd hd2 64 k 0 0 (by omega) (by omega) hd (by rw [pow64, Nat.div_eq_of_lt hX]; omega)
  exact this

theorem less_l (X Y : Nat) : ∀ (n k : Nat), n ≤ 64 → n < k → X / 2 ^ n = Y / 2 ^ n → hallmarkref01_less.l0 k (X : Int) (Y : Int) ((n : Int) - 1) = some (decide (X < Y)) := by
  intro n
  induction n with
  | zero =>
    intro k hn hk h
    obtain ⟨k, rfl⟩ : ∃ m, k = m + 1 := ⟨k - 1, by omega⟩
    simp only [hallmarkref01_less.l0]
    rw [if_neg (by omega)]
    rw [Nat.pow_zero, Nat.div_one, Nat.div_one] at h
    rw [h, decide_eq_false (by omega)]
  | succ n ih =>
    intro k hn hk h
    obtain ⟨k, rfl⟩ : ∃ m, k = m + 1 := ⟨k - 1, by omega⟩
    have ei : (((n + 1 : Nat) : Int) - 1) = (n : Int) := by omega
    have hX := div_step X n
    have hY := div_step Y n
    have bX := bit_lt X n
    have bY := bit_lt Y n
    have e3 : wrap64 ((n : Int) - 1) = (n : Int) - 1 := wrap_id (by omega) (by omega)
    rw [ei]
    simp only [hallmarkref01_less.l0]
    rw [if_pos (by omega), bit_is X n (by omega), Option.bind_some, bit_is Y n (by omega), Option.bind_some, Option.bind_some, e3]
    by_cases he : X / 2 ^ n % 2 = Y / 2 ^ n % 2
    · rw [if_pos (by omega)]
      exact ih k (by omega) (by omega) (by omega)
    · rw [if_neg (by omega)]
      by_cases h1 : Y / 2 ^ n % 2 = 1
      · have hlt : X < Y := Nat.lt_of_not_le fun hle => by
          have := Nat.div_le_div_right (c := 2 ^ n) hle
          omega
        rw [h1, decide_eq_true hlt]; rfl
      · have hge : ¬ X < Y := fun hlt => by
          have := Nat.div_le_div_right (c := 2 ^ n) (Nat.le_of_lt hlt)
          omega
        have h0 : Y / 2 ^ n % 2 = 0 := by omega
        rw [h0, decide_eq_false hge]; rfl

theorem high_is (a : Int) (ha : -9223372036854775808 ≤ a ∧ a < 9223372036854775808) : Go.bits .xor .u64 (IntKind.u64.wrap a) 9223372036854775808 = (((a + 9223372036854775808).toNat : Nat) : Int) := by
  obtain ⟨X, hX, e⟩ := u64_nat a
  have e0 : (9223372036854775808 : Int) = ((9223372036854775808 : Nat) : Int) := by omega
  have e1 := e
  rw [u64_wrap] at e1
  rw [e, e0, xor_nat X _ hX (by omega), xor_high X hX]
  split <;> omega

theorem less_is (a b : Int) (ha : -9223372036854775808 ≤ a ∧ a < 9223372036854775808) (hb : -9223372036854775808 ≤ b ∧ b < 9223372036854775808) (k : Nat) (hk : 65 ≤ k) :
    hallmarkref01_less.f k a b = some (decide (a < b)) := by
  unfold hallmarkref01_less.f
  rw [high_is a ha, high_is b hb]
  have h := less_l (a + 9223372036854775808).toNat (b + 9223372036854775808).toNat 64 k (by omega) (by omega) (by rw [pow64, Nat.div_eq_of_lt (by omega), Nat.div_eq_of_lt (by omega)])
  have e : decide ((a + 9223372036854775808).toNat < (b + 9223372036854775808).toNat) = decide (a < b) := by
    by_cases h : a < b
    · rw [decide_eq_true h, decide_eq_true (by omega)]
    · rw [decide_eq_false h, decide_eq_false (by omega)]
  rw [e] at h
  exact h

theorem testBit_val (X i : Nat) : X.testBit i = decide (X / 2 ^ i % 2 = 1) := Nat.testBit_eq_decide_div_mod_eq
theorem bit_and (X Y i : Nat) : (X &&& Y) / 2 ^ i % 2 = if X / 2 ^ i % 2 + Y / 2 ^ i % 2 = 2 then 1 else 0 := by
  have h := Nat.testBit_and X Y i
  rw [testBit_val, testBit_val, testBit_val] at h
  have h0 := bit_lt X i
  have h1 := bit_lt Y i
  have h2 := bit_lt (X &&& Y) i
  generalize X / 2 ^ i % 2 = x at *
  generalize Y / 2 ^ i % 2 = y at *
  generalize (X &&& Y) / 2 ^ i % 2 = z at *
  have hx : x = 0 ∨ x = 1 := by omega
  have hy : y = 0 ∨ y = 1 := by omega
  have hz : z = 0 ∨ z = 1 := by omega
  rcases hx with rfl | rfl <;> rcases hy with rfl | rfl <;> rcases hz with rfl | rfl <;> first | rfl | (exfalso; revert h; decide)

theorem bit_or (X Y i : Nat) : (X ||| Y) / 2 ^ i % 2 = if X / 2 ^ i % 2 + Y / 2 ^ i % 2 > 0 then 1 else 0 := by
  have h := Nat.testBit_or X Y i
  rw [testBit_val, testBit_val, testBit_val] at h
  have h0 := bit_lt X i
  have h1 := bit_lt Y i
  have h2 := bit_lt (X ||| Y) i
  generalize X / 2 ^ i % 2 = x at *
  generalize Y / 2 ^ i % 2 = y at *
  generalize (X ||| Y) / 2 ^ i % 2 = z at *
  have hx : x = 0 ∨ x = 1 := by omega
  have hy : y = 0 ∨ y = 1 := by omega
  have hz : z = 0 ∨ z = 1 := by omega
  rcases hx with rfl | rfl <;> rcases hy with rfl | rfl <;> rcases hz with rfl | rfl <;> first | rfl | (exfalso; revert h; decide)

theorem bit_xor (X Y i : Nat) : (X ^^^ Y) / 2 ^ i % 2 = if X / 2 ^ i % 2 + Y / 2 ^ i % 2 = 1 then 1 else 0 := by
  have h := Nat.testBit_xor X Y i
  rw [testBit_val, testBit_val, testBit_val] at h
  have h0 := bit_lt X i
  have h1 := bit_lt Y i
  have h2 := bit_lt (X ^^^ Y) i
  generalize X / 2 ^ i % 2 = x at *
  generalize Y / 2 ^ i % 2 = y at *
  generalize (X ^^^ Y) / 2 ^ i % 2 = z at *
  have hx : x = 0 ∨ x = 1 := by omega
  have hy : y = 0 ∨ y = 1 := by omega
  have hz : z = 0 ∨ z = 1 := by omega
  rcases hx with rfl | rfl <;> rcases hy with rfl | rfl <;> rcases hz with rfl | rfl <;> first | rfl | (exfalso; revert h; decide)

/-- one round of 'bits': a bit is laid, or none -/
theorem bits_round (s : Int) (X Y i k Z : Nat) (hi : i < 64) (hZ : (s = 5 ∧ Z = X &&& Y) ∨ (s = 6 ∧ Z = X ||| Y) ∨ (s = 7 ∧ Z = X ^^^ Y)) :
    hallmarkref01_bits.l0 (k + 1) s (X : Int) (Y : Int) ((Z % 2 ^ i : Nat) : Int) (i : Int) = hallmarkref01_bits.l0 k s (X : Int) (Y : Int) ((Z % 2 ^ (i + 1) : Nat) : Int) ((i + 1 : Nat) : Int) := by
  have hX := bit_lt X i
  have hY := bit_lt Y i
  have e4 : wrap64 ((i : Int) + 1) = ((i + 1 : Nat) : Int) := by rw [wrap_id (by omega) (by omega)]; omega
  have e5 : (1 : Int) = ((1 : Nat) : Int) := rfl
  have hp : (2 : Nat) ^ i * 2 ≤ 18446744073709551616 := by rw [← Nat.pow_succ]; exact pow_le (by omega)
  have hz : Z % 2 ^ i < 2 ^ i := Nat.mod_lt _ (Nat.two_pow_pos i)
  have one : Z / 2 ^ i % 2 = 1 → Go.bits .or .u64 ((Z % 2 ^ i : Nat) : Int) (shl .u64 1 (IntKind.u64.wrap (i : Int))) = ((Z % 2 ^ (i + 1) : Nat) : Int) := by
    intro h1
    rw [u64_id (n := (i : Int)) (by omega) (by omega), e5, shl_u64 1 i (by omega), Nat.one_mul, Nat.mod_eq_of_lt (a := 2 ^ i) (b := 18446744073709551616) (by omega), or_nat (Z % 2 ^ i) (2 ^ i) (by omega) (by omega)]
    have := or_join (Z % 2 ^ i) 1 i hz
    rw [Nat.one_mul] at this
    rw [this, mod_step, h1, Nat.one_mul]
  have nul : Z / 2 ^ i % 2 = 0 → Z % 2 ^ (i + 1) = Z % 2 ^ i := by
    intro h0
    rw [mod_step, h0, Nat.zero_mul, Nat.add_zero]
  simp only [hallmarkref01_bits.l0]
  rw [if_pos (by omega), bit_is X i (by omega), Option.bind_some, bit_is Y i (by omega), Option.bind_some, e4]
  have es : IntKind.u64.wrap (((X / 2 ^ i % 2 : Nat) : Int) + ((Y / 2 ^ i % 2 : Nat) : Int)) = ((X / 2 ^ i % 2 + Y / 2 ^ i % 2 : Nat) : Int) := by
    rw [u64_id (by omega) (by omega)]; omega
  have g0 : (0 : Int) ≤ IntKind.u64.wrap (i : Int) := by rw [u64_id (by omega) (by omega)]; omega
  rw [es]
  rcases hZ with ⟨rfl, hZ⟩ | ⟨rfl, hZ⟩ | ⟨rfl, hZ⟩
  · have hb := bit_and X Y i
    rw [← hZ] at hb
    by_cases hc : X / 2 ^ i % 2 + Y / 2 ^ i % 2 = 2
    · rw [if_pos hc] at hb
      rw [if_pos rfl, if_pos (by omega), if_pos g0, one hb]
    · rw [if_neg hc] at hb
      rw [if_pos rfl, if_neg (by omega), if_neg (by decide), if_neg (by decide), nul hb]
  · have hb := bit_or X Y i
    rw [← hZ] at hb
    by_cases hc : X / 2 ^ i % 2 + Y / 2 ^ i % 2 > 0
    · rw [if_pos hc] at hb
      rw [if_neg (by decide), if_pos rfl, if_pos (by omega), if_pos g0, one hb]
    · rw [if_neg hc] at hb
      rw [if_neg (by decide), if_pos rfl, if_neg (by omega), if_neg (by decide), nul hb]
  · have hb := bit_xor X Y i
    rw [← hZ] at hb
    by_cases hc : X / 2 ^ i % 2 + Y / 2 ^ i % 2 = 1
    · rw [if_pos hc] at hb
      rw [if_neg (by decide), if_neg (by decide), if_pos rfl, if_pos (by omega), if_pos g0, one hb]
    · rw [if_neg hc] at hb
      rw [if_neg (by decide), if_neg (by decide), if_pos rfl, if_neg (by omega), nul hb]

theorem bits_l (s : Int) (X Y Z : Nat) (hlt : Z < 18446744073709551616) (hZ : (s = 5 ∧ Z = X &&& Y) ∨ (s = 6 ∧ Z = X ||| Y) ∨ (s = 7 ∧ Z = X ^^^ Y)) : ∀ (d k i : Nat), i + d = 64 → d < k →
    hallmarkref01_bits.l0 k s (X : Int) (Y : Int) ((Z % 2 ^ i : Nat) : Int) (i : Int) = some (Z : Int) := by
  intro d
  induction d with
  | zero =>
    intro k i hi hk
    obtain ⟨k, rfl⟩ : ∃ m, k = m + 1 := ⟨k - 1, by omega⟩
    obtain rfl : i = 64 := by omega
    simp only [hallmarkref01_bits.l0]
    rw [if_neg (by omega), pow64, Nat.mod_eq_of_lt hlt]
  | succ d ih =>
    intro k i hi hk
    obtain ⟨k, rfl⟩ : ∃ m, k = m + 1 := ⟨k - 1, by omega⟩
    rw [bits_round s X Y i k Z (by omega) hZ]
    exact ih k (i + 1) (by omega) (by omega)

theorem bits_is (s : Int) (X Y Z : Nat) (hlt : Z < 18446744073709551616) (hZ : (s = 5 ∧ Z = X &&& Y) ∨ (s = 6 ∧ Z = X ||| Y) ∨ (s = 7 ∧ Z = X ^^^ Y)) (k : Nat) (hk : 65 ≤ k) :
    hallmarkref01_bits.f k s (X : Int) (Y : Int) = some (Z : Int) := by
  unfold hallmarkref01_bits.f
  have h := bits_l s X Y Z hlt hZ 64 k 0 (by omega) (by omega)
  rw [Nat.pow_zero, Nat.mod_one] at h
  exact h

theorem up_l (n : Nat) (hn : n < 64) : ∀ (d k j : Nat) (a : Int), j + d = n → d + 65 < k → -9223372036854775808 ≤ a ∧ a < 9223372036854775808 →
    hallmarkref01_shift.l0 k a (n : Int) true (j : Int) = some (wrap64 (a * 2 ^ d)) := by
  intro d
  induction d with
  | zero =>
    intro k j a hj hk ha
    obtain ⟨k, rfl⟩ : ∃ m, k = m + 1 := ⟨k - 1, by omega⟩
    simp only [hallmarkref01_shift.l0]
    rw [if_neg (by omega), Int.pow_zero, Int.mul_one, wrap_id ha.1 ha.2]
  | succ d ih =>
    intro k j a hj hk ha
    obtain ⟨k, rfl⟩ : ∃ m, k = m + 1 := ⟨k - 1, by omega⟩
    obtain ⟨A, hA, e⟩ := u64_nat a
    have e4 : wrap64 ((j : Int) + 1) = ((j + 1 : Nat) : Int) := by rw [wrap_id (by omega) (by omega)]; omega
    simp only [hallmarkref01_shift.l0]
    rw [if_pos (by omega), if_pos trivial, e, plus_is A A hA hA k (by omega), Option.bind_some, e4]
    rw [ih k (j + 1) _ (by omega) (by omega) (wrap_range _), wrap_mul_l]
    refine congrArg some (wrap_congr ?_)
    rw [u64_wrap] at e
    have e5 : (((A + A) % 18446744073709551616 : Nat) : Int) % 18446744073709551616 = (a * 2) % 18446744073709551616 := by omega
    rw [Int.mul_emod, e5, ← Int.mul_emod, Int.pow_succ', Int.mul_assoc]

theorem and_high0 (H A : Nat) (hH : H = 2 ^ 63) (hA : A < H + H) : A &&& H = A / H * H := by
  have hq : A / 2 ^ 63 % 2 = A / H := by
    rw [← hH]
    have : A / H < 2 := (Nat.div_lt_iff_lt_mul (by rw [hH]; exact Nat.two_pow_pos 63)).2 (by omega)
    exact Nat.mod_eq_of_lt this
  have hb := testBit_val A 63
  rw [hq] at hb
  have hlt : A / H < 2 := (Nat.div_lt_iff_lt_mul (by rw [hH]; exact Nat.two_pow_pos 63)).2 (by omega)
  have h01 : A / H = 0 ∨ A / H = 1 := by omega
  apply Nat.eq_of_testBit_eq
  intro i
  rw [Nat.testBit_and]
  rcases h01 with h | h
  · rw [h] at hb ⊢
    rw [Nat.zero_mul, Nat.zero_testBit, hH, Nat.testBit_two_pow]
    by_cases hi : 63 = i
    · subst hi; rw [hb]; rfl
    · rw [decide_eq_false hi, Bool.and_false]
  · rw [h] at hb ⊢
    rw [Nat.one_mul, hH, Nat.testBit_two_pow]
    by_cases hi : 63 = i
    · subst hi; rw [hb]; rfl
    · rw [decide_eq_false hi, Bool.and_false]
theorem and_high (A : Nat) (hA : A < 18446744073709551616) : A &&& 9223372036854775808 = A / 9223372036854775808 * 9223372036854775808 :=
  and_high0 9223372036854775808 A pow63.symm (by omega)

theorem down_l (n : Nat) (hn : n < 64) : ∀ (d k j : Nat) (a : Int), j + d = n → d < k → -9223372036854775808 ≤ a ∧ a < 9223372036854775808 →
    hallmarkref01_shift.l0 k a (n : Int) false (j : Int) = some (a / 2 ^ d) := by
  intro d
  induction d with
  | zero =>
    intro k j a hj hk ha
    obtain ⟨k, rfl⟩ : ∃ m, k = m + 1 := ⟨k - 1, by omega⟩
    simp only [hallmarkref01_shift.l0]
    rw [if_neg (by omega), Int.pow_zero, Int.ediv_one]
  | succ d ih =>
    intro k j a hj hk ha
    obtain ⟨k, rfl⟩ : ∃ m, k = m + 1 := ⟨k - 1, by omega⟩
    obtain ⟨A, hA, e⟩ := u64_nat a
    have e4 : wrap64 ((j : Int) + 1) = ((j + 1 : Nat) : Int) := by rw [wrap_id (by omega) (by omega)]; omega
    have e0 : (9223372036854775808 : Int) = ((9223372036854775808 : Nat) : Int) := by omega
    have e2 : Int.tdiv (A : Int) 2 = ((A / 2 : Nat) : Int) := (Int.ofNat_tdiv _ 2).symm
    have hq : A / 9223372036854775808 < 2 := by omega
    simp only [hallmarkref01_shift.l0]
    rw [if_pos (by omega), if_neg (by decide), e, e2, e0, and_nat A _ hA (by omega), and_high A hA, u64_id (n := ((A / 2 : Nat) : Int)) (by omega) (by omega), or_nat _ _ (by omega) (by omega), e4]
    have hj2 := or_join (A / 2) (A / 9223372036854775808) 63 (by rw [pow63]; omega)
    rw [pow63] at hj2
    rw [hj2]
    rw [u64_wrap] at e
    have e5 : wrap64 ((A / 2 + A / 9223372036854775808 * 9223372036854775808 : Nat) : Int) = a / 2 := by
      unfold wrap64; omega
    rw [e5, ih k (j + 1) (a / 2) (by omega) (by omega) (by omega)]
    rw [Int.ediv_ediv_of_nonneg (by decide), Int.pow_succ', Int.mul_comm]

theorem ref_truth_is (b : Bool) : hallmarkref01_truth.f b = some (isTrue b) := by cases b <;> rfl

theorem neg_word (q : Nat) (hq : q ≤ 9223372036854775808) : wrap64 (((18446744073709551616 - q) % 18446744073709551616 : Nat) : Int) = wrap64 (-(q : Int)) := by
  refine wrap_congr ?_
  omega

/-- quotient and rest out of the sizes' -/
theorem tdiv_signs (a b : Int) : Int.tdiv a b = if (decide (a < 0) != decide (b < 0)) = true then -((a.natAbs / b.natAbs : Nat) : Int) else ((a.natAbs / b.natAbs : Nat) : Int) := by
  obtain ⟨n, ha | ha⟩ := Int.eq_nat_or_neg a <;> obtain ⟨m, hb | hb⟩ := Int.eq_nat_or_neg b <;> subst ha <;> subst hb
  · rw [Int.natAbs_natCast, Int.natAbs_natCast, if_neg (by rw [decide_eq_false (by omega), decide_eq_false (by omega)]; decide)]
    exact (Int.ofNat_tdiv n m).symm
  · rw [Int.natAbs_natCast, Int.natAbs_neg, Int.natAbs_natCast, Int.tdiv_neg, ← Int.ofNat_tdiv]
    by_cases hm : m = 0
    · subst hm; simp
    · rw [if_pos (by rw [decide_eq_false (by omega), decide_eq_true (by omega)]; decide)]
  · rw [Int.natAbs_natCast, Int.natAbs_neg, Int.natAbs_natCast, Int.neg_tdiv, ← Int.ofNat_tdiv]
    by_cases hn : n = 0
    · subst hn; simp
    · rw [if_pos (by rw [decide_eq_true (by omega), decide_eq_false (by omega)]; decide)]
  · rw [Int.natAbs_neg, Int.natAbs_neg, Int.natAbs_natCast, Int.natAbs_natCast, Int.neg_tdiv, Int.tdiv_neg, Int.neg_neg, ← Int.ofNat_tdiv]
    by_cases hn : n = 0
    · subst hn; simp
    by_cases hm : m = 0
    · subst hm; simp
    · rw [if_neg (by rw [decide_eq_true (by omega), decide_eq_true (by omega)]; decide)]
theorem tmod_signs (a b : Int) : Int.tmod a b = if a < 0 then -((a.natAbs % b.natAbs : Nat) : Int) else ((a.natAbs % b.natAbs : Nat) : Int) := by
  obtain ⟨n, ha | ha⟩ := Int.eq_nat_or_neg a <;> obtain ⟨m, hb | hb⟩ := Int.eq_nat_or_neg b <;> subst ha <;> subst hb
  · rw [Int.natAbs_natCast, Int.natAbs_natCast, if_neg (by omega)]
    exact (Int.ofNat_tmod n m).symm
  · rw [Int.natAbs_natCast, Int.natAbs_neg, Int.natAbs_natCast, Int.tmod_neg, ← Int.ofNat_tmod, if_neg (by omega)]
  · rw [Int.natAbs_natCast, Int.natAbs_neg, Int.natAbs_natCast, Int.neg_tmod, ← Int.ofNat_tmod]
    by_cases hn : n = 0
    · subst hn; simp
    · rw [if_pos (by omega)]
  · rw [Int.natAbs_neg, Int.natAbs_neg, Int.natAbs_natCast, Int.natAbs_natCast, Int.neg_tmod, Int.tmod_neg, ← Int.ofNat_tmod]
    by_cases hn : n = 0
    · subst hn; simp
    · rw [if_pos (by omega)]

theorem ref_rest (k : Nat) (s a : Int) (q r : Nat) (hs : s = 3 ∨ s = 4) (hr : r ≤ 9223372036854775808) (hk : 65 ≤ k) :
    hallmarkref01_Arith.j1 (k + 1) s a (q : Int) (r : Int) = some (if s = 3 then wrap64 (q : Int) else wrap64 (if a < 0 then -(r : Int) else (r : Int)), true) := by
  simp only [hallmarkref01_Arith.j1]
  by_cases ha : a < 0
  · rw [if_pos ha, minus_is r (by omega) k hk, Option.bind_some, if_pos ha, neg_word r hr]
    rcases hs with rfl | rfl
    · rw [if_pos rfl, if_pos rfl]
    · rw [if_neg (by decide), if_neg (by decide)]
  · rw [if_neg ha, if_neg ha]
    rcases hs with rfl | rfl
    · rw [if_pos rfl, if_pos rfl]
    · rw [if_neg (by decide), if_neg (by decide)]

theorem ref_div (k : Nat) (s a b : Int) (x8 x9 x16 : Int) (hs : s = 3 ∨ s = 4) (ha : -9223372036854775808 ≤ a ∧ a < 9223372036854775808) (hb : -9223372036854775808 ≤ b ∧ b < 9223372036854775808) (hk : 270 ≤ k) :
    hallmarkref01_Arith.j0 (k + 1 + 1) s a b x8 x9 x16 true = some (if b = 0 then (0, false) else (if s = 3 then wrap64 (Int.tdiv a b) else Int.tmod a b, true)) := by
  simp only [hallmarkref01_Arith.j0]
  rw [if_pos trivial]
  by_cases hz : b = 0
  · rw [if_pos hz, if_pos hz]
  rw [if_neg hz, if_neg hz, size_is a ha _ (by omega), Option.bind_some, size_is b hb _ (by omega), Option.bind_some, divide_is _ _ (by omega) (by omega) (by omega) _ (by omega), Option.bind_some]
  have hq : a.natAbs / b.natAbs ≤ a.natAbs := Nat.div_le_self _ _
  have hr : a.natAbs % b.natAbs ≤ a.natAbs := Nat.mod_le _ _
  have hr2 : a.natAbs % b.natAbs ≤ 9223372036854775808 := by omega
  have hq2 : a.natAbs / b.natAbs ≤ 9223372036854775808 := by omega
  have hA : a.natAbs ≤ 9223372036854775808 := by omega
  have hm : Int.tmod a b = wrap64 (if a < 0 then -((a.natAbs % b.natAbs : Nat) : Int) else ((a.natAbs % b.natAbs : Nat) : Int)) := by
    rw [← tmod_signs, wrap_id]
    · rw [tmod_signs]; split <;> omega
    · rw [tmod_signs]
      split
      · omega
      · have := Nat.mod_lt a.natAbs (y := b.natAbs) (by omega)
        omega
  by_cases hc : (decide (a < 0) != decide (b < 0)) = true
  · rw [if_pos hc, minus_is _ (by omega) _ (by omega), Option.bind_some, ref_rest k s a _ _ hs hr2 (by omega), neg_word _ hq2, ← hm, tdiv_signs, if_pos hc]
  · rw [if_neg hc, ref_rest k s a _ _ hs hr2 (by omega), ← hm, tdiv_signs, if_neg hc]

theorem ref_shift (k : Nat) (a b : Int) (up : Bool) (ha : -9223372036854775808 ≤ a ∧ a < 9223372036854775808) (hk : 140 ≤ k) :
    hallmarkref01_shift.f k a (wrap64 (Int.tmod (IntKind.u64.wrap b) 64)) up = some (if up then wrap64 (a * 2 ^ (b % 64).toNat) else a / 2 ^ (b % 64).toNat) := by
  obtain ⟨B, hB, e⟩ := u64_nat b
  have e1 : Int.tmod (B : Int) 64 = ((B % 64 : Nat) : Int) := (Int.ofNat_tmod B 64).symm
  have h64 : B % 64 < 64 := Nat.mod_lt _ (by decide)
  have e2 : wrap64 ((B % 64 : Nat) : Int) = ((B % 64 : Nat) : Int) := wrap_id (by omega) (by omega)
  rw [e, e1, e2]
  rw [u64_wrap] at e
  have e3 : (b % 64).toNat = B % 64 := by omega
  rw [e3]
  unfold hallmarkref01_shift.f
  cases up
  · exact down_l (B % 64) h64 (B % 64) k 0 a (by omega) (by omega) ha
  · exact up_l (B % 64) h64 (B % 64) k 0 a (by omega) (by omega) ha

theorem ref_is (k : Nat) (s a b : Int) (ha : -9223372036854775808 ≤ a ∧ a < 9223372036854775808) (hb : -9223372036854775808 ≤ b ∧ b < 9223372036854775808) (hk : 300 ≤ k) :
    hallmarkref01_Arith.f (k + 1 + 1 + 1) s a b = some (arithP s a b) := by
  obtain ⟨X, hX, eX⟩ := u64_nat a
  obtain ⟨Y, hY, eY⟩ := u64_nat b
  have eX' := eX
  have eY' := eY
  rw [u64_wrap] at eX' eY'
  unfold hallmarkref01_Arith.f arithP
  by_cases c0 : s = 0
  · rw [if_pos c0, if_pos c0, eX, eY, plus_is X Y hX hY _ (by omega), Option.bind_some]
    have : wrap64 (((X + Y) % 18446744073709551616 : Nat) : Int) = wrap64 (a + b) := wrap_congr (by omega)
    rw [this]
  rw [if_neg c0, if_neg c0]
  by_cases c1 : s = 1
  · rw [if_pos c1, if_pos c1, eX, eY, minus_is Y hY _ (by omega), Option.bind_some, plus_is X _ hX (by omega) _ (by omega), Option.bind_some]
    have : wrap64 (((X + (18446744073709551616 - Y) % 18446744073709551616) % 18446744073709551616 : Nat) : Int) = wrap64 (a - b) := wrap_congr (by omega)
    rw [this]
  rw [if_neg c1, if_neg c1]
  by_cases c2 : s = 2
  · rw [if_pos c2, if_pos c2, eX, eY, times_is X Y hY _ (by omega), Option.bind_some]
    have : wrap64 ((X * Y % 18446744073709551616 : Nat) : Int) = wrap64 (a * b) := by
      refine wrap_congr ?_
      rw [Int.natCast_emod, cast64, Int.emod_emod, Int.natCast_mul, ← eX', ← eY', ← Int.mul_emod]
    rw [this]
  rw [if_neg c2, if_neg c2]
  by_cases c3 : s = 3
  · subst c3
    rw [if_pos rfl, if_pos rfl, beq_self_eq_true, ref_div _ 3 a b _ _ _ (.inl rfl) ha hb (by omega)]
    by_cases hz : b = 0
    · rw [if_pos hz, if_pos hz]
    · rw [if_neg hz, if_neg hz, if_pos rfl]
  rw [if_neg c3, if_neg c3]
  by_cases c4 : s = 4
  · subst c4
    rw [if_pos rfl, beq_self_eq_true, ref_div _ 4 a b _ _ _ (.inr rfl) ha hb (by omega)]
    by_cases hz : b = 0
    · rw [if_pos hz, if_pos hz]
    · rw [if_neg hz, if_neg hz, if_neg (by decide)]
  rw [if_neg c4]
  have b4 : (s == 4) = false := beq_eq_false_iff_ne.2 c4
  rw [b4]
  simp only [hallmarkref01_Arith.j0]
  rw [if_neg (by decide)]
  have hand : X &&& Y < 18446744073709551616 := by
    have := Nat.and_lt_two_pow X (n := 64) (y := Y) (by rw [pow64]; exact hY)
    rw [pow64] at this; exact this
  have hor : X ||| Y < 18446744073709551616 := by
    have := Nat.or_lt_two_pow (n := 64) (x := X) (y := Y) (by rw [pow64]; exact hX) (by rw [pow64]; exact hY)
    rw [pow64] at this; exact this
  have hxor : X ^^^ Y < 18446744073709551616 := by
    have := Nat.xor_lt_two_pow (n := 64) (x := X) (y := Y) (by rw [pow64]; exact hX) (by rw [pow64]; exact hY)
    rw [pow64] at this; exact this
  by_cases c5 : s = 5
  · subst c5
    rw [if_pos rfl, if_pos rfl, beq_self_eq_true]
    simp only [hallmarkref01_Arith.j2]
    rw [if_pos trivial, eX, eY, bits_is 5 X Y _ hand (.inl ⟨rfl, rfl⟩) _ (by omega), Option.bind_some, and_i64 a b X Y eX eY]
  rw [if_neg c5, if_neg c5]
  by_cases c6 : s = 6
  · subst c6
    rw [if_pos rfl, if_pos rfl, beq_self_eq_true]
    simp only [hallmarkref01_Arith.j2]
    rw [if_pos trivial, eX, eY, bits_is 6 X Y _ hor (.inr (.inl ⟨rfl, rfl⟩)) _ (by omega), Option.bind_some, or_i64 a b X Y eX eY]
  rw [if_neg c6, if_neg c6]
  by_cases c7 : s = 7
  · subst c7
    rw [if_pos rfl, beq_self_eq_true]
    simp only [hallmarkref01_Arith.j2]
    rw [if_pos trivial, eX, eY, bits_is 7 X Y _ hxor (.inr (.inr ⟨rfl, rfl⟩)) _ (by omega), Option.bind_some, xor_i64 a b X Y eX eY]
  have b7 : (s == 7) = false := beq_eq_false_iff_ne.2 c7
  rw [if_neg c7, b7]
  simp only [hallmarkref01_Arith.j2]
  rw [if_neg (by decide)]
  by_cases c8 : s = 8
  · subst c8
    rw [if_pos rfl, if_pos rfl, beq_self_eq_true]
    simp only [hallmarkref01_Arith.j3]
    have e : ((8 : Int) == 8) = true := by decide
    rw [if_pos trivial, e, ref_shift k a b true ha (by omega), Option.bind_some]; rfl
  rw [if_neg c8, if_neg c8]
  by_cases c9 : s = 9
  · subst c9
    rw [if_pos rfl, beq_self_eq_true]
    simp only [hallmarkref01_Arith.j3]
    have e : ((9 : Int) == 8) = false := by decide
    rw [if_pos trivial, e, ref_shift k a b false ha (by omega), Option.bind_some]; rfl
  have b9 : (s == 9) = false := beq_eq_false_iff_ne.2 c9
  rw [if_neg c9, b9]
  simp only [hallmarkref01_Arith.j3]
  rw [if_neg (by decide)]
  by_cases c10 : s = 10
  · rw [if_pos c10, if_pos c10, less_is a b ha hb k (by omega), Option.bind_some, ref_truth_is, Option.bind_some]
  rw [if_neg c10, if_neg c10]
  by_cases c11 : s = 11
  · rw [if_pos c11, if_pos c11, less_is b a hb ha k (by omega), Option.bind_some, ref_truth_is, Option.bind_some]
    have : (!decide (b < a)) = decide (a ≤ b) := by
      by_cases h : b < a
      · rw [decide_eq_true h, decide_eq_false (by omega)]; rfl
      · rw [decide_eq_false h, decide_eq_true (by omega)]; rfl
    rw [this]
  rw [if_neg c11, if_neg c11]
  have heq : (IntKind.u64.wrap a == IntKind.u64.wrap b) = (a == b) := by
    rw [u64_wrap, u64_wrap]
    by_cases h : a = b
    · rw [h, beq_self_eq_true, beq_self_eq_true]
    · rw [beq_eq_false_iff_ne.2 h, beq_eq_false_iff_ne.2 (by omega)]
  by_cases c12 : s = 12
  · rw [if_pos c12, if_pos c12, ref_truth_is, Option.bind_some, heq]
  rw [if_neg c12, if_neg c12]
  by_cases c13 : s = 13
  · have hne : (IntKind.u64.wrap a != IntKind.u64.wrap b) = (a != b) := by
      unfold bne; rw [heq]
    rw [if_pos c13, if_pos c13, ref_truth_is, Option.bind_some, hne]
  rw [if_neg c13, if_neg c13]

end Go.Proofs.Ytddkjckheacecaa.CalcWordChains
