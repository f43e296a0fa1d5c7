/- Numbers and bits, with no program in sight: what the machine's operations on words of 64 bits come to as natural numbers. -/
import Derived.Test.YtojmepkhbebllaaDoorPShowProgsx0
namespace Go.Proofs.YtojmepkhbebllaaDoor.BaseShowProgs
open Go.RowKit Go.Proofs.YtojmepkhbebllaaDoorW.PrintWords Go.Proofs.YtojmepkhbebllaaDoorW.PrintLast Go.Proofs.YtojmepkhbebllaaDoorW.PrintMore

theorem u64_wrap (n : Int) : IntKind.u64.wrap n = n % 18446744073709551616 := by simp [IntKind.wrap, IntKind.bits, IntKind.signed]
theorem u64_id {n : Int} (h0 : 0 ≤ n) (h1 : n < 18446744073709551616) : IntKind.u64.wrap n = n := by rw [u64_wrap]; omega
theorem wrap_id {x : Int} (h0 : -9223372036854775808 ≤ x) (h1 : x < 9223372036854775808) : wrap64 x = x := by unfold wrap64; omega
theorem range {a : Int} (h : (Lit.int .i64 a).wf = true) : -9223372036854775808 ≤ a ∧ a < 9223372036854775808 := by
  simp [Lit.wf, IntKind.min, IntKind.max, IntKind.signed, IntKind.bits] at h
  omega
/-- the number that a word's bits are -/
theorem wrap_u64 (x : Int) : wrap64 (IntKind.u64.wrap x) = wrap64 x := by rw [u64_wrap]; unfold wrap64; omega
theorem wrap_mod (x : Int) : wrap64 (x % 18446744073709551616) = wrap64 x := by unfold wrap64; omega
theorem wrap_wrap (x : Int) : wrap64 (wrap64 x) = wrap64 x := by unfold wrap64; omega
theorem wrap_range (x : Int) : -9223372036854775808 ≤ wrap64 x ∧ wrap64 x < 9223372036854775808 := by unfold wrap64; omega
theorem u64_nat (x : Int) : ∃ X : Nat, X < 18446744073709551616 ∧ IntKind.u64.wrap x = (X : Int) := by
  rw [u64_wrap]; exact ⟨(x % 18446744073709551616).toNat, by omega, by omega⟩

theorem pow64 : (2 : Nat) ^ 64 = 18446744073709551616 := by decide
theorem pow63 : (2 : Nat) ^ 63 = 9223372036854775808 := by decide
theorem pow_le {i : Nat} (h : i ≤ 64) : (2 : Nat) ^ i ≤ 18446744073709551616 := by
  rw [← pow64]; exact Nat.pow_le_pow_right (by decide) h

/-- and, or, xor of sizes -/
theorem ofInt_nat (a : Nat) (ha : a < 18446744073709551616) : (BitVec.ofInt 64 (a : Int)).toNat = a := by
  rw [BitVec.ofInt_natCast, BitVec.toNat_ofNat]
  exact Nat.mod_eq_of_lt (by rw [pow64]; exact ha)
theorem ofInt_u64 (a : Int) (X : Nat) (h : IntKind.u64.wrap a = (X : Int)) : (BitVec.ofInt 64 a).toNat = X := by
  rw [BitVec.toNat_ofInt, Int.natCast_pow]
  rw [u64_wrap] at h
  have e : ((2 : Nat) : Int) ^ 64 = 18446744073709551616 := by decide
  rw [e, h, Int.toNat_natCast]
theorem or_nat (a b : Nat) (ha : a < 18446744073709551616) (hb : b < 18446744073709551616) : Go.bits .or .u64 (a : Int) (b : Int) = ((a ||| b : Nat) : Int) := by
  have h3 : a ||| b < 2 ^ 64 := Nat.or_lt_two_pow (by rw [pow64]; exact ha) (by rw [pow64]; exact hb)
  rw [pow64] at h3
  have e : Go.bits .or .u64 (a : Int) (b : Int) = IntKind.u64.wrap ((BitVec.ofInt 64 (a : Int) ||| BitVec.ofInt 64 (b : Int)).toNat : Int) := rfl
  rw [e, BitVec.toNat_or, ofInt_nat a ha, ofInt_nat b hb]
  exact u64_id (Int.natCast_nonneg _) (by omega)
theorem and_nat (a b : Nat) (ha : a < 18446744073709551616) (hb : b < 18446744073709551616) : Go.bits .and .u64 (a : Int) (b : Int) = ((a &&& b : Nat) : Int) := by
  have h3 : a &&& b < 2 ^ 64 := Nat.and_lt_two_pow _ (by rw [pow64]; exact hb)
  rw [pow64] at h3
  have e : Go.bits .and .u64 (a : Int) (b : Int) = IntKind.u64.wrap ((BitVec.ofInt 64 (a : Int) &&& BitVec.ofInt 64 (b : Int)).toNat : Int) := rfl
  rw [e, BitVec.toNat_and, ofInt_nat a ha, ofInt_nat b hb]
  exact u64_id (Int.natCast_nonneg _) (by omega)
theorem xor_nat (a b : Nat) (ha : a < 18446744073709551616) (hb : b < 18446744073709551616) : Go.bits .xor .u64 (a : Int) (b : Int) = ((a ^^^ b : Nat) : Int) := by
  have h3 : a ^^^ b < 2 ^ 64 := Nat.xor_lt_two_pow (by rw [pow64]; exact ha) (by rw [pow64]; exact hb)
  rw [pow64] at h3
  have e : Go.bits .xor .u64 (a : Int) (b : Int) = IntKind.u64.wrap ((BitVec.ofInt 64 (a : Int) ^^^ BitVec.ofInt 64 (b : Int)).toNat : Int) := rfl
  rw [e, BitVec.toNat_xor, ofInt_nat a ha, ofInt_nat b hb]
  exact u64_id (Int.natCast_nonneg _) (by omega)
/-- of signed words: those of their sizes, wrapped -/
theorem and_i64 (a b : Int) (X Y : Nat) (hX : IntKind.u64.wrap a = (X : Int)) (hY : IntKind.u64.wrap b = (Y : Int)) : Go.bits .and .i64 a b = wrap64 ((X &&& Y : Nat) : Int) := by
  have e : Go.bits .and .i64 a b = IntKind.i64.wrap ((BitVec.ofInt 64 a &&& BitVec.ofInt 64 b).toNat : Int) := rfl
  rw [e, BitVec.toNat_and, ofInt_u64 a X hX, ofInt_u64 b Y hY]; exact i64_w _
theorem or_i64 (a b : Int) (X Y : Nat) (hX : IntKind.u64.wrap a = (X : Int)) (hY : IntKind.u64.wrap b = (Y : Int)) : Go.bits .or .i64 a b = wrap64 ((X ||| Y : Nat) : Int) := by
  have e : Go.bits .or .i64 a b = IntKind.i64.wrap ((BitVec.ofInt 64 a ||| BitVec.ofInt 64 b).toNat : Int) := rfl
  rw [e, BitVec.toNat_or, ofInt_u64 a X hX, ofInt_u64 b Y hY]; exact i64_w _
theorem xor_i64 (a b : Int) (X Y : Nat) (hX : IntKind.u64.wrap a = (X : Int)) (hY : IntKind.u64.wrap b = (Y : Int)) : Go.bits .xor .i64 a b = wrap64 ((X ^^^ Y : Nat) : Int) := by
  have e : Go.bits .xor .i64 a b = IntKind.i64.wrap ((BitVec.ofInt 64 a ^^^ BitVec.ofInt 64 b).toNat : Int) := rfl
  rw [e, BitVec.toNat_xor, ofInt_u64 a X hX, ofInt_u64 b Y hY]; exact i64_w _

theorem or_join (a s i : Nat) (ha : a < 2 ^ i) : a ||| (s * 2 ^ i) = a + s * 2 ^ i := by
  rw [Nat.or_comm, Nat.mul_comm s, ← Nat.two_pow_add_eq_or_of_lt ha s, Nat.add_comm]
theorem or_one (q b : Nat) (h : b < 2) : (q * 2) ||| b = q * 2 + b := by
  have := Nat.two_pow_add_eq_or_of_lt (i := 1) (b := b) (by simpa using h) q
  simp only [Nat.pow_one] at this
  rw [Nat.mul_comm, ← this]
theorem bit_lt (x i : Nat) : x / 2 ^ i % 2 < 2 := Nat.mod_lt _ (by decide)
theorem mod_step (x i : Nat) : x % 2 ^ (i + 1) = x % 2 ^ i + x / 2 ^ i % 2 * 2 ^ i := by
  rw [Nat.pow_succ, Nat.mod_mul, Nat.mul_comm (2 ^ i)]
theorem div_step (x i : Nat) : x / 2 ^ i = 2 * (x / 2 ^ (i + 1)) + x / 2 ^ i % 2 := by
  rw [Nat.pow_succ, ← Nat.div_div_eq_div_mul]; omega
theorem cast64 : ((18446744073709551616 : Nat) : Int) = 18446744073709551616 := by omega
theorem cast2 : ((2 : Nat) : Int) = 2 := rfl
theorem shl_u64 (s i : Nat) (hi : i ≤ 64) : shl .u64 (s : Int) (i : Int) = ((s * 2 ^ i % 18446744073709551616 : Nat) : Int) := by
  unfold shl
  have e : min ((i : Int)).toNat (IntKind.bits .u64) = i := by
    show min ((i : Int)).toNat 64 = i
    rw [Int.toNat_natCast]; omega
  rw [e, u64_wrap, Int.natCast_emod, cast64, Int.natCast_mul, Int.natCast_pow, cast2]
theorem shr_u64 (s i : Nat) (hi : i ≤ 64) : shr .u64 (s : Int) (i : Int) = ((s / 2 ^ i : Nat) : Int) := by
  unfold shr
  have e : min ((i : Int)).toNat (IntKind.bits .u64) = i := by
    show min ((i : Int)).toNat 64 = i
    rw [Int.toNat_natCast]; omega
  rw [e, Int.natCast_ediv, Int.natCast_pow, cast2]
/-- all bits turned -/
theorem xor_all (X : Nat) (hX : X < 18446744073709551616) : X ^^^ 18446744073709551615 = 18446744073709551615 - X := by
  have h : (~~~ (BitVec.ofNat 64 X)).toNat = 2 ^ 64 - 1 - (BitVec.ofNat 64 X).toNat := BitVec.toNat_not
  rw [← BitVec.xor_allOnes, BitVec.toNat_xor, BitVec.toNat_allOnes, BitVec.toNat_ofNat, pow64, Nat.mod_eq_of_lt hX] at h
  exact h
/-- the highest bit turned: the number moved up by half of all -/
theorem xor_low (H r : Nat) (hH : H = 2 ^ 63) (hr : r < H) : r ^^^ H = r + H := by
  have hr' : r < 2 ^ 63 := by rw [← hH]; exact hr
  have h1 := Nat.two_pow_add_eq_or_of_lt hr' 1
  rw [← hH, Nat.mul_one] at h1
  have h2 : H ^^^ r = H ||| r := by
    apply Nat.eq_of_testBit_eq
    intro i
    rw [Nat.testBit_xor, Nat.testBit_or]
    by_cases hi : i = 63
    · rw [hi, Nat.testBit_lt_two_pow hr']; simp
    · have : H.testBit i = false := by
        rw [hH, Nat.testBit_two_pow]; simp; omega
      rw [this]; simp
  rw [Nat.xor_comm, h2, ← h1, Nat.add_comm]
theorem xor_back (H Y : Nat) : (Y ^^^ H) ^^^ H = Y := by rw [Nat.xor_assoc, Nat.xor_self, Nat.xor_zero]
theorem xor_high0 (H X : Nat) (hH : H = 2 ^ 63) (hX : X < H + H) : X ^^^ H = if X < H then X + H else X - H := by
  by_cases h : X < H
  · rw [if_pos h, xor_low H X hH h]
  · rw [if_neg h]
    have e := xor_low H (X - H) hH (by omega)
    have b := xor_back H (X - H)
    rw [e, Nat.sub_add_cancel (by omega)] at b
    exact b
theorem xor_high (X : Nat) (hX : X < 18446744073709551616) : X ^^^ 9223372036854775808 = if X < 9223372036854775808 then X + 9223372036854775808 else X - 9223372036854775808 :=
  xor_high0 9223372036854775808 X pow63.symm (by omega)
theorem wrap_emod (x : Int) : wrap64 x % 18446744073709551616 = x % 18446744073709551616 := by unfold wrap64; omega
theorem wrap_congr {x y : Int} (h : x % 18446744073709551616 = y % 18446744073709551616) : wrap64 x = wrap64 y := by unfold wrap64; omega
theorem wrap_mul_l (x y : Int) : wrap64 (wrap64 x * y) = wrap64 (x * y) := wrap_congr (by rw [Int.mul_emod, wrap_emod, ← Int.mul_emod])
theorem wrap_mul_r (x y : Int) : wrap64 (x * wrap64 y) = wrap64 (x * y) := by rw [Int.mul_comm, wrap_mul_l, Int.mul_comm]

theorem wrap_add_l (x y : Int) : wrap64 (wrap64 x + y) = wrap64 (x + y) := by unfold wrap64; omega
theorem wrap_add_r (x y : Int) : wrap64 (x + wrap64 y) = wrap64 (x + y) := by unfold wrap64; omega
theorem wrap_sub_l (x y : Int) : wrap64 (wrap64 x - y) = wrap64 (x - y) := by unfold wrap64; omega
end Go.Proofs.YtojmepkhbebllaaDoor.BaseShowProgs
