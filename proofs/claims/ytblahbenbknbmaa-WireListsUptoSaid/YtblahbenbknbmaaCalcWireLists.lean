/- What the program's functions on a number's bytes come to: the plain words of Num. -/
import Derived.Test.YtblahbenbknbmaaPWireListsx
import Derived.Test.YtblahbenbknbmaaNumWireLists
namespace Go.Proofs.Ytblahbenbknbmaa.CalcWireLists
open Go.RowKit Go.Proofs.YtblahbenbknbmaaW.PrintWords Go.Proofs.YtblahbenbknbmaaW.PrintLast Go.Proofs.YtblahbenbknbmaaW.PrintMore Go.Proofs.Ytblahbenbknbmaa.PWireLists Go.Proofs.Ytblahbenbknbmaa.BaseWireLists Go.Proofs.Ytblahbenbknbmaa.NumWireLists

theorem or_u8 : ∀ x : Fin 256, Go.bits .or .u8 (x.val : Int) 128 = ((x.val % 128 + 128 : Nat) : Int) := by decide +kernel
theorem and_u8 : ∀ x : Fin 256, Go.bits .and .u8 (x.val : Int) 127 = ((x.val % 128 : Nat) : Int) := by decide +kernel
theorem or_byte (x : Nat) : Go.bits .or .u8 ((x : Int) % 256) 128 = ((x % 128 + 128 : Nat) : Int) := by
  have h := or_u8 ⟨x % 256, Nat.mod_lt _ (by decide)⟩
  have e : ((x : Int) % 256) = ((x % 256 : Nat) : Int) := rfl
  rw [e, h]
  have : x % 256 % 128 = x % 128 := by omega
  rw [this]
theorem and_byte (x : Int) (h0 : 0 ≤ x) (h1 : x < 256) : Go.bits .and .u8 x 127 = ((x.toNat % 128 : Nat) : Int) := by
  have h := and_u8 ⟨x.toNat, by omega⟩
  have e : ((x.toNat : Nat) : Int) = x := by omega
  rw [← e]
  exact h

theorem put_l : ∀ (d k z : Nat) (l : List Int), z < 128 ^ (d + 1) → d < k → l.length + d + 1 ≤ 140737488355328 → wire_put.l0 k l (z : Int) = some (l ++ vb (d + 1) z) := by
  intro d
  induction d with
  | zero =>
    intro k z l hz hk hl
    obtain ⟨k, rfl⟩ : ∃ m, k = m + 1 := ⟨k - 1, by omega⟩
    have hz' : z < 128 := by simpa using hz
    have e : ((z : Int) % 256) = (z : Int) := by omega
    simp only [wire_put.l0]
    rw [if_neg (by omega), if_pos (by omega), e, vb, if_neg (by omega)]
  | succ d ih =>
    intro k z l hz hk hl
    obtain ⟨k, rfl⟩ : ∃ m, k = m + 1 := ⟨k - 1, by omega⟩
    simp only [wire_put.l0]
    by_cases h : z ≥ 128
    · have hq : z / 128 < 128 ^ (d + 1) := by
        rw [Nat.pow_succ] at hz
        exact (Nat.div_lt_iff_lt_mul (by decide)).2 hz
      have e : ((z : Int) / 128) = ((z / 128 : Nat) : Int) := rfl
      rw [if_pos (by omega), if_pos (by omega), or_byte, e, ih k _ _ hq (by omega) (by simp; omega)]
      have ev : vb (d + 1 + 1) z = ((z % 128 + 128 : Nat) : Int) :: vb (d + 1) (z / 128) := by rw [vb, if_pos h]
      rw [ev]
      simp
    · have e : ((z : Int) % 256) = (z : Int) := by omega
      rw [if_neg (by omega), if_pos (by omega), e, vb, if_neg h]

theorem zz_bits (n : Int) (h0 : -9223372036854775808 ≤ n) (h1 : n < 9223372036854775808) :
    Go.bits .xor .u64 (IntKind.u64.wrap ((IntKind.u64.wrap n) * 2)) (IntKind.u64.wrap (n / 9223372036854775808)) = (zz n : Int) := by
  by_cases h : 0 ≤ n
  · have e1 : IntKind.u64.wrap n = n := u64_id h (by omega)
    have e2 : n / 9223372036854775808 = 0 := by omega
    have e3 : IntKind.u64.wrap (n * 2) = (((2 * n).toNat : Nat) : Int) := by rw [u64_id (by omega) (by omega)]; omega
    have e4 : IntKind.u64.wrap 0 = ((0 : Nat) : Int) := u64_id (by decide) (by decide)
    rw [e1, e2, e3, e4, xor_nat _ 0 (by clear e1 e3 e4; omega) (by decide), Nat.xor_zero]
    unfold zz; rw [if_pos h]
  · have e1 : IntKind.u64.wrap n = n + 18446744073709551616 := by rw [u64_wrap]; omega
    have e2 : n / 9223372036854775808 = -1 := by omega
    have e3 : IntKind.u64.wrap ((n + 18446744073709551616) * 2) = (((2 * n + 18446744073709551616).toNat : Nat) : Int) := by rw [u64_wrap]; omega
    have e4 : IntKind.u64.wrap (-1) = ((18446744073709551615 : Nat) : Int) := by rw [u64_wrap]; decide
    have hx : (2 * n + 18446744073709551616).toNat < 18446744073709551616 := by clear e1 e3 e4; omega
    rw [e1, e2, e3, e4, xor_nat _ _ hx (by decide), xor_all _ hx]
    clear e1 e3 e4
    unfold zz; rw [if_neg h]
    omega

theorem put_is (k : Nat) (hk : 10 ≤ k) (l : List Int) (n : Int) (hl : l.length + 10 ≤ 140737488355328) (h0 : -9223372036854775808 ≤ n) (h1 : n < 9223372036854775808) : wire_put.f k l n = some (l ++ enc n) := by
  unfold wire_put.f
  rw [zz_bits n h0 h1]
  exact put_l 9 k (zz n) l (lt10 (zz_lt h0 h1)) (by omega) (by omega)
theorem clone_is (l : List Int) (hl : l.length < 140737488355328) : slices_Clone_byte_byte.f l = some l := by
  unfold slices_Clone_byte_byte.f
  rw [Option.bind_some, if_pos (by simp; omega)]
  rfl
theorem Put_is (k : Nat) (hk : 10 ≤ k) (l : List Int) (n : Int) (hl : l.length + 10 ≤ 140737488355328) (h0 : -9223372036854775808 ≤ n) (h1 : n < 9223372036854775808) : wire_Put.f k l n = some (l ++ enc n) := by
  unfold wire_Put.f
  rw [clone_is l (by omega), Option.bind_some, put_is k hk l n hl h0 h1, Option.bind_some]

/-- what 'take' answers -/
def takeR (b : List Int) (p : Int × Nat × Int) : Int × List Int × Int := (p.1, if p.2.2 = 0 then b.drop p.2.1 else [], p.2.2)

theorem unzz_bits (z : Nat) (hz : z < 18446744073709551616) : Go.bits .xor .i64 (wrap64 ((z : Int) / 2)) (wrap64 (-(wrap64 (Go.bits .and .u64 (z : Int) 1)))) = unzz z := by
  have e0 : (1 : Int) = ((1 : Nat) : Int) := rfl
  have e1 : z &&& 1 = z % 2 := Nat.and_one_is_mod z
  have e2 : ((z : Int) / 2) = ((z / 2 : Nat) : Int) := rfl
  have e3 : wrap64 ((z / 2 : Nat) : Int) = ((z / 2 : Nat) : Int) := wrap_id (by omega) (by omega)
  have eX : IntKind.u64.wrap ((z / 2 : Nat) : Int) = ((z / 2 : Nat) : Int) := u64_id (by omega) (by omega)
  rw [e0, and_nat z 1 hz (by decide), e1, e2, e3]
  unfold unzz
  by_cases h : z % 2 = 0
  · have e4 : wrap64 (-(wrap64 ((0 : Nat) : Int))) = 0 := by unfold wrap64; omega
    have eY : IntKind.u64.wrap 0 = ((0 : Nat) : Int) := u64_id (by decide) (by decide)
    rw [h, e4, if_pos rfl, xor_i64 _ _ _ _ eX eY, Nat.xor_zero, e3]
  · have h1 : z % 2 = 1 := by clear e3 eX; omega
    have e4 : wrap64 (-(wrap64 ((1 : Nat) : Int))) = -1 := by unfold wrap64; omega
    have eY : IntKind.u64.wrap (-1) = ((18446744073709551615 : Nat) : Int) := by rw [u64_wrap]; decide
    have hx : z / 2 < 18446744073709551616 := by clear e3 eX; omega
    rw [h1, e4, if_neg (by decide), xor_i64 _ _ _ _ eX eY, xor_all _ hx]
    clear e3 eX eY e4
    unfold wrap64
    omega

theorem shl_at (c i : Nat) (hi : i ≤ 9) : shl .u64 (c : Int) ((7 * i : Nat) : Int) = ((c * 128 ^ i % 18446744073709551616 : Nat) : Int) := by
  rw [shl_u64 c (7 * i) (by omega), Nat.pow_mul]

theorem or_at (z c i : Nat) (hz : z < 128 ^ i) (hi : i ≤ 9) (hc : c < 128) (h9 : i = 9 → c ≤ 1) : Go.bits .or .u64 (z : Int) (shl .u64 (IntKind.u64.wrap (c : Int)) ((7 * i : Nat) : Int)) = ((z + c * 128 ^ i : Nat) : Int) := by
  have hlt : c * 128 ^ i < 18446744073709551616 ∧ z < 18446744073709551616 := by
    by_cases h : i = 9
    · have := h9 h
      rw [h, pow9] at hz ⊢
      omega
    · have hle : 128 ^ i ≤ 128 ^ 8 := Nat.pow_le_pow_right (by decide) (by omega)
      have e8 : (128 : Nat) ^ 8 = 72057594037927936 := by decide
      have hm : c * 128 ^ i ≤ 128 * 128 ^ i := Nat.mul_le_mul_right _ (by omega)
      omega
  have e : IntKind.u64.wrap (c : Int) = (c : Int) := u64_id (by omega) (by omega)
  have hp : (128 : Nat) ^ i = 2 ^ (7 * i) := by rw [Nat.pow_mul]
  have hj := or_join z c (7 * i) (by rw [← hp]; exact hz)
  rw [← hp] at hj
  rw [e, shl_at c i hi, Nat.mod_eq_of_lt hlt.1, or_nat z _ hlt.2 hlt.1, hj]

theorem take_j (b : List Int) (k i z c : Nat) (n9 : Int) (hi : i ≤ 9) (hl : i < b.length) (hc : c < 256) (hz : z < 128 ^ i) (h9 : i = 9 → c ≤ 1) :
    wire_take.j1 (k + 1) b (z : Int) (i : Int) (c : Int) ((7 * i : Nat) : Int) b n9 (i : Int) false =
      if c < 128 then some (takeR b (unzz (z + c % 128 * 128 ^ i), i + 1, 0)) else wire_take.l0 k b ((z + c % 128 * 128 ^ i : Nat) : Int) b n9 ((i + 1 : Nat) : Int) := by
  have g1 : (0 : Int) ≤ ((7 * i : Nat) : Int) := Int.natCast_nonneg _
  have g2 : ((i : Int) + 1) = ((i + 1 : Nat) : Int) := by omega
  have g3 : (0 : Int) ≤ ((i + 1 : Nat) : Int) := Int.natCast_nonneg _
  have g4 : ((i + 1 : Nat) : Int) ≤ (b.length : Int) := by omega
  have g5 : c % 128 < 128 := Nat.mod_lt _ (by decide)
  have g6 : i = 9 → c % 128 ≤ 1 := fun h => by have := h9 h; omega
  have g7 : z + c % 128 * 128 ^ i < 18446744073709551616 := by
    by_cases h : i = 9
    · have := g6 h
      rw [h, pow9] at hz ⊢
      omega
    · have hle : 128 ^ i ≤ 128 ^ 8 := Nat.pow_le_pow_right (by decide) (by omega)
      have e8 : (128 : Nat) ^ 8 = 72057594037927936 := by decide
      have hm : c % 128 * 128 ^ i ≤ 128 * 128 ^ i := Nat.mul_le_mul_right _ (by omega)
      omega
  have g8 : ((i + 1 : Nat) : Int).toNat = i + 1 := Int.toNat_natCast _
  have gc : (0 : Int) ≤ (c : Int) := Int.natCast_nonneg _
  have gd : (c : Int) < 256 := by omega
  have gn : -9223372036854775808 ≤ ((i + 1 : Nat) : Int) := by omega
  have gm : ((i + 1 : Nat) : Int) < 9223372036854775808 := by omega
  have ea := and_byte (c : Int) gc gd
  rw [Int.toNat_natCast] at ea
  have ew : wrap64 ((i : Int) + 1) = ((i + 1 : Nat) : Int) := by rw [g2]; exact wrap_id gn gm
  simp only [wire_take.j1]
  rw [if_neg (by decide), if_pos g1, ea, or_at z (c % 128) i hz hi g5 g6, unzz_bits _ g7, ew]
  by_cases h : c < 128
  · rw [if_pos (show (c : Int) < 128 by clear ea ew; omega), if_pos h, if_pos g3, if_pos g4, g8]; rfl
  · rw [if_neg (show ¬ (c : Int) < 128 by clear ea ew; omega), if_neg h]

theorem take_l (b : List Int) (hb : ∀ x ∈ b, 0 ≤ x ∧ x < 256) : ∀ (d k i z : Nat), d + i = 10 → 2 * d + 1 < k → z < 128 ^ i →
    wire_take.l0 k b (z : Int) b (b.length : Int) (i : Int) = some (takeR b (tkP b d i z)) ∨ d = 0 := by
  intro d
  induction d with
  | zero => intro k i z _ _ _; exact .inr rfl
  | succ d ih =>
    intro k i z hd hk hz
    left
    obtain ⟨k, rfl⟩ : ∃ m, k = m + 1 + 1 := ⟨k - 2, by omega⟩
    have g9 : i ≤ 9 := by omega
    rw [tkP]
    by_cases hl : i < b.length
    · have er : rd b (i : Int) = b[i] := by unfold rd; simp [hl]
      have hr := hb _ (List.getElem_mem hl)
      obtain ⟨c, ec⟩ : ∃ c : Nat, b[i] = (c : Int) := ⟨b[i].toNat, by omega⟩
      have hc : c < 256 := by omega
      have e7 : wrap64 (7 * (i : Int)) = ((7 * i : Nat) : Int) := by rw [wrap_id (by omega) (by omega)]; omega
      have l1 : (i : Int) < (b.length : Int) := by clear e7; omega
      have l2 : (0 : Int) ≤ (i : Int) := Int.natCast_nonneg i
      have fin : ∀ (h9 : i = 9 → c ≤ 1), wire_take.j1 (k + 1) b (z : Int) (i : Int) (c : Int) ((7 * i : Nat) : Int) b (b.length : Int) (i : Int) false =
          some (takeR b (if c < 128 then (unzz (z + c % 128 * 128 ^ i), i + 1, 0) else tkP b d (i + 1) (z + c % 128 * 128 ^ i))) := by
        intro h9
        rw [take_j b k i z c _ g9 hl hc hz h9]
        by_cases h : c < 128
        · rw [if_pos h, if_pos h]
        · rw [if_neg h, if_neg h]
          have hz' : z + c % 128 * 128 ^ i < 128 ^ (i + 1) := by
            have hm : c % 128 * 128 ^ i ≤ 127 * 128 ^ i := Nat.mul_le_mul_right _ (by clear e7; omega)
            rw [pow_step]; clear e7; omega
          rcases ih k (i + 1) _ (by clear e7; omega) (by clear e7; omega) hz' with g | g
          · exact g
          · exfalso
            have : i = 9 := by clear e7; omega
            have := h9 this
            clear e7; omega
      simp only [wire_take.l0]
      rw [if_pos l1, if_pos l2, if_pos l1, e7, er, ec, if_pos hl, Int.toNat_natCast]
      have stop : wire_take.j1 (k + 1) b (z : Int) (i : Int) (c : Int) ((7 * i : Nat) : Int) b (b.length : Int) (i : Int) true = some (takeR b (0, 0, 4)) := by
        simp only [wire_take.j1]
        rw [if_pos trivial]; rfl
      clear e7
      by_cases h9 : i = 9
      · rw [if_pos (by omega)]
        by_cases hc1 : c > 1
        · rw [if_pos (by omega), if_pos (.inl ⟨h9, hc1⟩), stop]
        · rw [if_neg (by omega)]
          by_cases hc0 : c = 0
          · rw [if_pos (by omega), decide_eq_true (by omega), if_pos (.inr ⟨by omega, hc0⟩), stop]
          · rw [if_neg (by omega), if_neg (by omega)]
            exact fin (fun _ => by omega)
      · rw [if_neg (by omega)]
        by_cases hc0 : c = 0
        · rw [if_pos (by omega)]
          by_cases hi0 : 0 < i
          · rw [decide_eq_true (by omega), if_pos (.inr ⟨hi0, hc0⟩), stop]
          · rw [decide_eq_false (by omega), if_neg (by omega)]
            exact fin (fun h => absurd h h9)
        · rw [if_neg (by omega), if_neg (by omega)]
          exact fin (fun h => absurd h h9)
    · simp only [wire_take.l0]
      rw [if_neg (by omega), if_neg hl]; rfl

theorem take_is (k : Nat) (hk : 30 ≤ k) (b : List Int) (hb : ∀ x ∈ b, 0 ≤ x ∧ x < 256) : wire_take.f k b = some (takeR b (takeP b)) := by
  unfold wire_take.f takeP
  rcases take_l b hb 10 k 0 0 rfl (by omega) (by decide) with g | g
  · exact g
  · cases g
theorem Take_is (k : Nat) (hk : 30 ≤ k) (b : List Int) (hb : ∀ x ∈ b, 0 ≤ x ∧ x < 256) : wire_Take.f k b = some (takeR b (takeP b)) := by
  unfold wire_Take.f
  rw [take_is k hk b hb, Option.bind_some]
theorem own_is (l : List Int) (hl : l.length < 140737488355328) : hallmarklaw03_own.f l = some l := by
  unfold hallmarklaw03_own.f
  rw [Option.bind_some, if_pos (by simp; omega)]
  rfl
theorem enc64 : enc 64 = [128, 1] := by decide
theorem str64 : (strOfNums [128, 1]).toList = [128, 1] := by rw [ByteArray.toList_eq]; rfl
theorem lives_is (k : Nat) (hk : 30 ≤ k) : hallmarklaw03_lives.f k = some true := by
  unfold hallmarklaw03_lives.f
  have h := take_enc 64 [] (by decide) (by decide)
  rw [List.append_nil, enc64] at h
  rw [Put_is k (by omega) [] 64 (by decide) (by decide) (by decide), Option.bind_some, List.nil_append, enc64, Take_is k hk _ (by decide), Option.bind_some, h, Option.bind_some, str64]
  rfl
/-- a slice's bytes -/
theorem bytes_of (l : List Int) (h : ∀ x ∈ l, (Lit.int .u8 x).wf = true) : ∀ x ∈ l, 0 ≤ x ∧ x < 256 := by
  intro x hx
  have := h x hx
  simp [Lit.wf, IntKind.min, IntKind.max, IntKind.signed, IntKind.bits] at this
  omega
theorem enc_bytes (n : Int) : ∀ x ∈ enc n, 0 ≤ x ∧ x < 256 := vb_bytes 10 (zz n)
end Go.Proofs.Ytblahbenbknbmaa.CalcWireLists
