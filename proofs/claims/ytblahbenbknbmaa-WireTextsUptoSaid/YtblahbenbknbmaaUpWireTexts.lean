/- Which bytes a text is, and which text any bytes begin with, or why none: proved for all texts and bytes of at most 1,048,576 bytes. -/
import Derived.Test.YtblahbenbknbmaaCalcWireTexts
namespace Go.Proofs.Ytblahbenbknbmaa.Pure
open Go.RowKit Go.Proofs.YtblahbenbknbmaaW.PrintWords Go.Proofs.YtblahbenbknbmaaW.PrintLast Go.Proofs.YtblahbenbknbmaaW.PrintMore Go.Proofs.Ytblahbenbknbmaa.PWireTexts Go.Proofs.Ytblahbenbknbmaa.BaseWireTexts Go.Proofs.Ytblahbenbknbmaa.NumWireTexts Go.Proofs.Ytblahbenbknbmaa.CalcWireTexts

/-- what the reference writes -/
theorem ref_put_l : ∀ (d k z : Nat) (l : List Int), z < 128 ^ (d + 1) → z < 18446744073709551616 → d < k → l.length + d + 1 ≤ 140737488355328 → hallmarkref03_Put.l0 k l (z : Int) = some (l ++ vb (d + 1) z) := by
  intro d
  induction d with
  | zero =>
    intro k z l hz hz2 hk hl
    obtain ⟨k, rfl⟩ : ∃ m, k = m + 1 := ⟨k - 1, by omega⟩
    have hz' : z < 128 := by simpa using hz
    have e : ((z : Int) % 256) = (z : Int) := by omega
    simp only [hallmarkref03_Put.l0]
    rw [if_neg (by omega), if_pos (by omega), e, vb, if_neg (by omega)]
  | succ d ih =>
    intro k z l hz hz2 hk hl
    obtain ⟨k, rfl⟩ : ∃ m, k = m + 1 := ⟨k - 1, by omega⟩
    by_cases h : z ≥ 128
    · have hq : z / 128 < 128 ^ (d + 1) := by
        rw [Nat.pow_succ] at hz
        exact (Nat.div_lt_iff_lt_mul (by decide)).2 hz
      have hih := ih k (z / 128) (l ++ [((z % 128 + 128 : Nat) : Int)]) hq (by omega) (by omega) (by simp; omega)
      have g1 : (z : Int) > 127 := by omega
      have g2 : l.length < 140737488355328 := by omega
      have e1 : Int.tmod (z : Int) 128 = ((z % 128 : Nat) : Int) := (Int.ofNat_tmod z 128).symm
      have e2 : Int.tdiv (z : Int) 128 = ((z / 128 : Nat) : Int) := (Int.ofNat_tdiv z 128).symm
      have e3 : IntKind.u64.wrap (128 + ((z % 128 : Nat) : Int)) % 256 = ((z % 128 + 128 : Nat) : Int) := by
        rw [u64_id (by omega) (by omega)]; omega
      have e4 : IntKind.u64.wrap ((z / 128 : Nat) : Int) = ((z / 128 : Nat) : Int) := u64_id (by clear e3; omega) (by clear e3; omega)
      have ev : vb (d + 1 + 1) z = ((z % 128 + 128 : Nat) : Int) :: vb (d + 1) (z / 128) := by rw [vb, if_pos h]
      simp only [hallmarkref03_Put.l0]
      rw [if_pos g1, if_pos g2, e1, e2, e3, e4, hih, ev]
      simp
    · have e : ((z : Int) % 256) = (z : Int) := by omega
      simp only [hallmarkref03_Put.l0]
      rw [if_neg (by omega), if_pos (by omega), e, vb, if_neg h]
theorem ref_put_is (k : Nat) (hk : 10 ≤ k) (l : List Int) (n : Int) (hl : l.length + 10 ≤ 140737488355328) (h0 : -9223372036854775808 ≤ n) (h1 : n < 9223372036854775808) : hallmarkref03_Put.f (k + 1) l n = some (l ++ enc n) := by
  have hz := zz_lt h0 h1
  have hp := ref_put_l 9 k (zz n) l (lt10 hz) hz (by omega) (by omega)
  have gl : ([] : List Int).length + l.length < 140737488355328 := by simp; omega
  unfold hallmarkref03_Put.f
  rw [Option.bind_some, if_pos gl, Option.bind_some, List.nil_append]
  by_cases h : n < 0
  · have e1 : wrap64 ((-1) - n) = -1 - n := wrap_id (by omega) (by omega)
    have e2 : IntKind.u64.wrap (-1 - n) = -1 - n := u64_id (by clear e1; omega) (by clear e1; omega)
    have e3 : IntKind.u64.wrap (2 * (-1 - n)) = 2 * (-1 - n) := u64_id (by clear e1 e2; omega) (by clear e1 e2; omega)
    have e4 : IntKind.u64.wrap (2 * (-1 - n) + 1) = (zz n : Int) := by
      rw [u64_id (by clear e1 e2 e3; omega) (by clear e1 e2 e3; omega)]
      clear e1 e2 e3
      unfold zz; rw [if_neg (by omega)]; omega
    rw [if_pos h, e1, e2, e3, e4]
    simp only [hallmarkref03_Put.j0]
    exact hp
  · have e2 : IntKind.u64.wrap n = n := u64_id (by omega) (by omega)
    have e3 : IntKind.u64.wrap (2 * n) = (zz n : Int) := by
      rw [u64_id (by clear e2; omega) (by clear e2; omega)]
      clear e2
      unfold zz; rw [if_pos (by omega)]; omega
    rw [if_neg h, e2, e3]
    simp only [hallmarkref03_Put.j0]
    exact hp

/-- what the reference takes -/
theorem ref_unzz (z : Nat) (hz : z < 18446744073709551616) (k : Int) :
    (if Int.tmod (z : Int) 2 = 1 then some (wrap64 ((-1) - (wrap64 (IntKind.u64.wrap (Int.tdiv (z : Int) 2)))), k, (0 : Int)) else some (wrap64 (IntKind.u64.wrap (Int.tdiv (z : Int) 2)), k, (0 : Int))) = some (unzz z, k, (0 : Int)) := by
  have e1 : Int.tmod (z : Int) 2 = ((z % 2 : Nat) : Int) := (Int.ofNat_tmod z 2).symm
  have e2 : Int.tdiv (z : Int) 2 = ((z / 2 : Nat) : Int) := (Int.ofNat_tdiv z 2).symm
  have e3 : IntKind.u64.wrap ((z / 2 : Nat) : Int) = ((z / 2 : Nat) : Int) := u64_id (by clear e1 e2; omega) (by clear e1 e2; omega)
  have e4 : wrap64 ((z / 2 : Nat) : Int) = ((z / 2 : Nat) : Int) := wrap_id (by clear e1 e2 e3; omega) (by clear e1 e2 e3; omega)
  have e5 : wrap64 ((-1) - ((z / 2 : Nat) : Int)) = (-1) - ((z / 2 : Nat) : Int) := wrap_id (by clear e1 e2 e3 e4; omega) (by clear e1 e2 e3 e4; omega)
  rw [e1, e2, e3, e4, e5]
  clear e1 e2 e3 e4 e5
  unfold unzz
  by_cases h : z % 2 = 0
  · rw [if_neg (by omega), if_pos h]
  · rw [if_pos (by omega), if_neg h]
theorem nat_lt (q : Nat) (h : q < 18446744073709551616) : (q : Int) < 18446744073709551616 := by omega
def refR (p : Int × Nat × Int) : Int × Int × Int := (p.1, (p.2.1 : Int), p.2.2)
theorem ref_take_j (b : List Int) (k i z c : Nat) (hi : i ≤ 9) (hz : z < 128 ^ i) (h9 : i = 9 → c ≤ 1) (hc : c < 256) :
    hallmarkref03_Take.j1 (k + 1) b (z : Int) ((128 ^ i : Nat) : Int) (i : Int) (c : Int) false =
      if c < 128 then some (refR (unzz (z + c % 128 * 128 ^ i), i + 1, 0)) else hallmarkref03_Take.l0 k b ((z + c % 128 * 128 ^ i : Nat) : Int) ((128 ^ (i + 1) : Nat) : Int) ((i + 1 : Nat) : Int) := by
  have g5 : c % 128 < 128 := Nat.mod_lt _ (by decide)
  have g6 : i = 9 → c % 128 ≤ 1 := fun h => by have := h9 h; omega
  have gp : 128 ^ i ≤ 9223372036854775808 := by rw [← pow9]; exact Nat.pow_le_pow_right (by decide) hi
  have g7 : z + c % 128 * 128 ^ i < 18446744073709551616 := by
    by_cases h : i = 9
    · have := g6 h
      rw [h, pow9] at hz ⊢
      omega
    · have hle : 128 ^ i ≤ 128 ^ 8 := Nat.pow_le_pow_right (by decide) (by omega)
      have e8 : (128 : Nat) ^ 8 = 72057594037927936 := by decide
      have hm : c % 128 * 128 ^ i ≤ 128 * 128 ^ i := Nat.mul_le_mul_right _ (by omega)
      omega
  have hm0 : c % 128 * 128 ^ i < 18446744073709551616 := by omega
  have e1 : Int.tmod (c : Int) 128 = ((c % 128 : Nat) : Int) := (Int.ofNat_tmod c 128).symm
  have e2 : IntKind.u64.wrap ((c % 128 : Nat) : Int) = ((c % 128 : Nat) : Int) := u64_id (Int.natCast_nonneg _) (by clear e1; omega)
  have e3 : IntKind.u64.wrap (((c % 128 : Nat) : Int) * ((128 ^ i : Nat) : Int)) = ((c % 128 * 128 ^ i : Nat) : Int) := by
    rw [← Int.natCast_mul]
    exact u64_id (Int.natCast_nonneg _) (nat_lt _ hm0)
  have e4 : IntKind.u64.wrap ((z : Int) + ((c % 128 * 128 ^ i : Nat) : Int)) = ((z + c % 128 * 128 ^ i : Nat) : Int) := by
    rw [← Int.natCast_add]
    exact u64_id (Int.natCast_nonneg _) (nat_lt _ g7)
  have e5 : wrap64 ((i : Int) + 1) = ((i + 1 : Nat) : Int) := by rw [wrap_id (by clear e1 e2 e3 e4; omega) (by clear e1 e2 e3 e4; omega)]; rfl
  simp only [hallmarkref03_Take.j1]
  rw [if_neg (by decide), e1, e2, e3, e4, e5, ref_unzz _ g7]
  by_cases h : c < 128
  · rw [if_pos (show (c : Int) < 128 by clear e1 e2 e3 e4 e5; omega), if_pos h]; rfl
  · rw [if_neg (show ¬ (c : Int) < 128 by clear e1 e2 e3 e4 e5; omega), if_neg h]
    have h8 : i ≠ 9 := fun h' => by have := h9 h'; clear e1 e2 e3 e4 e5; omega
    have e6 : IntKind.u64.wrap (((128 ^ i : Nat) : Int) * 128) = ((128 ^ (i + 1) : Nat) : Int) := by
      have hp : 128 ^ (i + 1) ≤ 9223372036854775808 := by rw [← pow9]; exact Nat.pow_le_pow_right (by decide) (by clear e1 e2 e3 e4 e5; omega)
      have he : ((128 ^ i : Nat) : Int) * 128 = ((128 ^ (i + 1) : Nat) : Int) := by rw [pow_step]; exact (Int.natCast_mul _ 128).symm
      rw [he]
      exact u64_id (Int.natCast_nonneg _) (by clear e1 e2 e3 e4 e5 he; omega)
    rw [e6]
theorem ref_take_l (b : List Int) (hb : ∀ x ∈ b, 0 ≤ x ∧ x < 256) : ∀ (d k i z : Nat), d + i = 10 → 2 * d + 1 < k → z < 128 ^ i →
    hallmarkref03_Take.l0 k b (z : Int) ((128 ^ i : Nat) : Int) (i : Int) = some (refR (tkP b d i z)) ∨ d = 0 := by
  intro d
  induction d with
  | zero => intro k i z _ _ _; exact .inr rfl
  | succ d ih =>
    intro k i z hd hk hz
    left
    obtain ⟨k, rfl⟩ : ∃ m, k = m + 1 + 1 := ⟨k - 2, by omega⟩
    have g9 : i ≤ 9 := by omega
    rw [tkP]
    by_cases hl : i < b.length
    · have er : rd b (i : Int) = b[i] := by unfold rd; simp [hl]
      have hr := hb _ (List.getElem_mem hl)
      obtain ⟨c, ec⟩ : ∃ c : Nat, b[i] = (c : Int) := ⟨b[i].toNat, by omega⟩
      have hc : c < 256 := by omega
      have l1 : (i : Int) < (b.length : Int) := by omega
      have l2 : (0 : Int) ≤ (i : Int) := Int.natCast_nonneg i
      have fin : ∀ (h9 : i = 9 → c ≤ 1), hallmarkref03_Take.j1 (k + 1) b (z : Int) ((128 ^ i : Nat) : Int) (i : Int) (c : Int) false =
          some (refR (if c < 128 then (unzz (z + c % 128 * 128 ^ i), i + 1, 0) else tkP b d (i + 1) (z + c % 128 * 128 ^ i))) := by
        intro h9
        rw [ref_take_j b k i z c g9 hz h9 hc]
        by_cases h : c < 128
        · rw [if_pos h, if_pos h]
        · rw [if_neg h, if_neg h]
          have hz' : z + c % 128 * 128 ^ i < 128 ^ (i + 1) := by
            have hm : c % 128 * 128 ^ i ≤ 127 * 128 ^ i := Nat.mul_le_mul_right _ (by omega)
            rw [pow_step]; omega
          rcases ih k (i + 1) _ (by omega) (by omega) hz' with g | g
          · exact g
          · exfalso
            have : i = 9 := by omega
            have := h9 this
            omega
      have stop : hallmarkref03_Take.j1 (k + 1) b (z : Int) ((128 ^ i : Nat) : Int) (i : Int) (c : Int) true = some (refR (0, 0, 4)) := by
        simp only [hallmarkref03_Take.j1]
        rw [if_pos trivial]; rfl
      have bq : ∀ y : Bool, ((((c : Int) == 0)) = y) → (if c = 0 then true else false) = y := by
        intro y hy
        rw [← hy]
        by_cases h : c = 0
        · rw [if_pos h, h]; rfl
        · rw [if_neg h]; exact (beq_eq_false_iff_ne.mpr (by omega)).symm
      have bz : (((c : Int) == 0)) = (if c = 0 then true else false) := (bq _ rfl).symm
      simp only [hallmarkref03_Take.l0]
      rw [if_pos l1, if_pos l2, er, ec, if_pos hl, Int.toNat_natCast, bz]
      by_cases h9 : i = 9
      · rw [if_pos (by omega)]
        by_cases hc1 : c > 1
        · rw [if_pos (by omega), if_pos (.inl ⟨h9, hc1⟩), stop]
        · rw [if_neg (by omega), if_pos (by omega)]
          by_cases hc0 : c = 0
          · rw [if_pos hc0, if_pos (.inr ⟨by omega, hc0⟩), stop]
          · rw [if_neg hc0, if_neg (by omega)]
            exact fin (fun _ => by omega)
      · rw [if_neg (by omega)]
        by_cases hi0 : 0 < i
        · rw [if_pos (by omega)]
          by_cases hc0 : c = 0
          · rw [if_pos hc0, if_pos (.inr ⟨hi0, hc0⟩), stop]
          · rw [if_neg hc0, if_neg (by omega)]
            exact fin (fun h => absurd h h9)
        · rw [if_neg (by omega), if_neg (by omega)]
          exact fin (fun h => absurd h h9)
    · simp only [hallmarkref03_Take.l0]
      rw [if_neg (by omega), if_neg hl]; rfl
theorem ref_take_is (k : Nat) (hk : 30 ≤ k) (b : List Int) (hb : ∀ x ∈ b, 0 ≤ x ∧ x < 256) : hallmarkref03_Take.f k b = some (refR (takeP b)) := by
  unfold hallmarkref03_Take.f takeP
  rcases ref_take_l b hb 10 k 0 0 rfl (by omega) (by decide) with g | g
  · exact g
  · cases g

theorem lc_append (l r : List Int) : (l ++ r).length = l.length + r.length := List.length_append
theorem nums_size (s : ByteArray) : (bytesOf s).length = s.size := bytesOf_length s
theorem nums_bytes (s : ByteArray) : ∀ x ∈ bytesOf s, 0 ≤ x ∧ x < 256 := by
  intro x hx
  unfold bytesOf at hx
  obtain ⟨b, _, rfl⟩ := List.mem_map.1 hx
  have := b.toNat_lt
  omega
theorem str_nums (s : ByteArray) : strOfNums (bytesOf s) = s := by
  have e : (bytesOf s).map (fun n => UInt8.ofNat n.toNat) = s.data.toList := by
    unfold bytesOf
    rw [List.map_map]
    have : ((fun n : Int => UInt8.ofNat n.toNat) ∘ fun b : UInt8 => (b.toNat : Int)) = id := by
      funext b
      simp
    rw [this, List.map_id]
  unfold strOfNums
  rw [e]
/-- how many there are -/
def countP (b : List Int) (most : Int) : Int × Nat × Int :=
  if (takeP b).2.2 = 0 then (if (takeP b).1 < 0 then (0, 0, 4) else if (takeP b).1 > most then (0, 0, 2) else takeP b) else (0, 0, (takeP b).2.2)
theorem count_is (k : Nat) (hk : 30 ≤ k) (b : List Int) (m : Int) (hb : ∀ x ∈ b, 0 ≤ x ∧ x < 256) : wire_count.f k b m = some (takeR b (countP b m)) := by
  unfold wire_count.f
  rw [take_is k hk b hb, Option.bind_some]
  unfold countP
  by_cases h : (takeP b).2.2 = 0
  · have e : (takeR b (takeP b)).2.2 = 0 := h
    have e1 : (takeR b (takeP b)).1 = (takeP b).1 := rfl
    rw [if_pos h, if_pos e, e1]
    by_cases h0 : (takeP b).1 < 0
    · rw [if_pos h0, if_pos h0]; rfl
    · rw [if_neg h0, if_neg h0]
      by_cases hm : (takeP b).1 > m
      · rw [if_pos hm, if_pos hm]; rfl
      · rw [if_neg hm, if_neg hm]
        unfold takeR
        rw [h]
  · have e : ¬ (takeR b (takeP b)).2.2 = 0 := h
    rw [if_neg h, if_neg e]
    show some (0, ([] : List Int), (takeP b).2.2) = some (0, (if (takeP b).2.2 = 0 then b.drop 0 else []), (takeP b).2.2)
    rw [if_neg h]
theorem ref_count_is (k : Nat) (hk : 30 ≤ k) (b : List Int) (m : Int) (hb : ∀ x ∈ b, 0 ≤ x ∧ x < 256) : hallmarkref03_Count.f k b m = some (refR (countP b m)) := by
  unfold hallmarkref03_Count.f
  rw [ref_take_is k hk b hb, Option.bind_some]
  unfold countP
  by_cases h : (takeP b).2.2 = 0
  · have e : (refR (takeP b)).2.2 = 0 := h
    have e1 : (refR (takeP b)).1 = (takeP b).1 := rfl
    rw [if_pos h, if_pos e, e1]
    by_cases h0 : (takeP b).1 < 0
    · rw [if_pos h0, if_pos h0]; rfl
    · rw [if_neg h0, if_neg h0]
      by_cases hm : (takeP b).1 > m
      · rw [if_pos hm, if_pos hm]; rfl
      · rw [if_neg hm, if_neg hm]
        unfold refR
        rw [h]
  · have e : ¬ (refR (takeP b)).2.2 = 0 := h
    rw [if_neg h, if_neg e]
    rfl
theorem count_told (b : List Int) (m : Int) (hb : ∀ x ∈ b, 0 ≤ x ∧ x < 256) (h : (countP b m).2.2 = 0) : 0 ≤ (countP b m).1 ∧ (countP b m).1 < 9223372036854775808 ∧ (countP b m).2.1 ≤ b.length ∧ (countP b m).1 ≤ m ∧ takeP b = countP b m := by
  unfold countP at h ⊢
  by_cases h1 : (takeP b).2.2 = 0
  · rw [if_pos h1] at h ⊢
    by_cases h0 : (takeP b).1 < 0
    · rw [if_pos h0] at h; cases h
    · rw [if_neg h0] at h ⊢
      by_cases hm : (takeP b).1 > m
      · rw [if_pos hm] at h; cases h
      · rw [if_neg hm]
        have := take_told b hb (takeP b).1 (takeP b).2.1 (by rw [← h1])
        exact ⟨by omega, this.2.2.2.2, this.2.2.1, by omega, rfl⟩
  · rw [if_neg h1] at h; exact absurd h h1
theorem count_enc (n m : Int) (r : List Int) (h0 : 0 ≤ n) (h1 : n < 9223372036854775808) (hm : n ≤ m) : countP (enc n ++ r) m = (n, (enc n).length, 0) := by
  unfold countP
  rw [take_enc n r (by omega) h1, if_pos rfl, if_neg (by omega), if_neg (by omega)]

theorem putText_is (k : Nat) (hk : 10 ≤ k) (l : List Int) (s : ByteArray) (hl : l.length ≤ 2097152) (hs : s.size ≤ 1048576) : wire_PutText.f k l s = some (l ++ enc (s.size : Int) ++ bytesOf s) := by
  have he := enc_le (s.size : Int)
  have g : (l ++ enc (s.size : Int)).length + s.size < 140737488355328 := by rw [lc_append]; omega
  unfold wire_PutText.f
  rw [clone_is l (by omega), Option.bind_some, put_is k hk l _ (by omega) (by omega) (by omega), Option.bind_some, if_pos g]
theorem ref_putText_is (k : Nat) (hk : 10 ≤ k) (l : List Int) (s : ByteArray) (hl : l.length ≤ 2097152) (hs : s.size ≤ 1048576) : hallmarkref03_PutText.f (k + 1) l s = some (l ++ enc (s.size : Int) ++ bytesOf s) := by
  have he := enc_le (s.size : Int)
  have g : (l ++ enc (s.size : Int)).length + s.size < 140737488355328 := by rw [lc_append]; omega
  unfold hallmarkref03_PutText.f
  rw [ref_put_is k hk l _ (by omega) (by omega) (by omega), Option.bind_some, if_pos g]
/-- the text that bytes begin with -/
def textP (b : List Int) (m : Int) : ByteArray × Nat × Int :=
  if (countP b m).2.2 = 0 then (if (countP b m).1 > (b.length : Int) - ((countP b m).2.1 : Int) then (⟨#[]⟩, 0, 3)
    else (strOfNums ((b.drop (countP b m).2.1).take (countP b m).1.toNat), (countP b m).2.1 + (countP b m).1.toNat, 0)) else (⟨#[]⟩, 0, (countP b m).2.2)
theorem takeText_is (k : Nat) (hk : 30 ≤ k) (b : List Int) (m : Int) (hb : ∀ x ∈ b, 0 ≤ x ∧ x < 256) :
    wire_TakeText.f k b m = some ((textP b m).1, (if (textP b m).2.2 = 0 then b.drop (textP b m).2.1 else []), (textP b m).2.2) := by
  unfold wire_TakeText.f
  rw [count_is k hk b m hb, Option.bind_some]
  unfold textP
  by_cases h : (countP b m).2.2 = 0
  · obtain ⟨c0, c1, c2, c3, _⟩ := count_told b m hb h
    have e : (takeR b (countP b m)).2.2 = 0 := h
    have e1 : (takeR b (countP b m)).1 = (countP b m).1 := rfl
    have e2 : (takeR b (countP b m)).2.1 = b.drop (countP b m).2.1 := if_pos h
    have e3 : ((b.drop (countP b m).2.1).length : Int) = (b.length : Int) - ((countP b m).2.1 : Int) := by rw [List.length_drop]; omega
    rw [if_pos h, if_pos e, e1, e2, e3]
    by_cases hg : (countP b m).1 > (b.length : Int) - ((countP b m).2.1 : Int)
    · rw [if_pos hg, if_pos hg]; rfl
    · rw [if_neg hg, if_neg hg, if_pos c0, if_pos (by omega), if_pos rfl, List.drop_drop]
  · have e : ¬ (takeR b (countP b m)).2.2 = 0 := h
    rw [if_neg h, if_neg e, if_neg h]; rfl
theorem ref_takeText_is (k : Nat) (hk : 30 ≤ k) (b : List Int) (m : Int) (hB : b.length ≤ 140737488355328) (hb : ∀ x ∈ b, 0 ≤ x ∧ x < 256) :
    hallmarkref03_TakeText.f k b m = some ((textP b m).1, ((textP b m).2.1 : Int), (textP b m).2.2) := by
  unfold hallmarkref03_TakeText.f
  rw [ref_count_is k hk b m hb, Option.bind_some]
  unfold textP
  by_cases h : (countP b m).2.2 = 0
  · obtain ⟨c0, c1, c2, c3, _⟩ := count_told b m hb h
    have e : (refR (countP b m)).2.2 = 0 := h
    have e1 : (refR (countP b m)).1 = (countP b m).1 := rfl
    have e2 : (refR (countP b m)).2.1 = ((countP b m).2.1 : Int) := rfl
    have e3 : wrap64 ((b.length : Int) - ((countP b m).2.1 : Int)) = (b.length : Int) - ((countP b m).2.1 : Int) := wrap_id (by omega) (by omega)
    rw [if_pos h, if_pos e, e1, e2, e3]
    clear e e1 e2 e3
    by_cases hg : (countP b m).1 > (b.length : Int) - ((countP b m).2.1 : Int)
    · rw [if_pos hg, if_pos hg]; rfl
    · have e4 : wrap64 (((countP b m).2.1 : Int) + (countP b m).1) = (((countP b m).2.1 + (countP b m).1.toNat : Nat) : Int) := by rw [wrap_id (by omega) (by omega)]; omega
      have f1 : (0 : Int) ≤ ((countP b m).2.1 : Int) := Int.natCast_nonneg _
      have f2 : ((countP b m).2.1 : Int) ≤ (((countP b m).2.1 + (countP b m).1.toNat : Nat) : Int) := by omega
      have f3 : (((countP b m).2.1 + (countP b m).1.toNat : Nat) : Int) ≤ (b.length : Int) := by omega
      have f4 : (b.take ((countP b m).2.1 + (countP b m).1.toNat)).drop (countP b m).2.1 = (b.drop (countP b m).2.1).take (countP b m).1.toNat := by
        rw [List.drop_take]; congr 1; omega
      rw [if_neg hg, if_neg hg, e4, if_pos f1, if_pos f2, if_pos f3, Int.toNat_natCast, Int.toNat_natCast, f4]
  · have e : ¬ (refR (countP b m)).2.2 = 0 := h
    rw [if_neg h, if_neg e]; rfl
theorem back_is (k : Nat) (hk : 30 ≤ k) (s : ByteArray) (b : List Int) (hs : s.size ≤ 1048576) (hl : b.length ≤ 1048576) (hb : ∀ x ∈ b, 0 ≤ x ∧ x < 256) :
    hallmarklaw03_WireTexts.j0 (k + 1) s b false = some true := by
  have he := enc_le (s.size : Int)
  have hn := nums_size s
  have g : (([] : List Int) ++ enc (s.size : Int) ++ bytesOf s).length + b.length < 140737488355328 := by rw [lc_append, lc_append]; simp; omega
  have hbb : ∀ x ∈ ([] : List Int) ++ enc (s.size : Int) ++ bytesOf s ++ b, 0 ≤ x ∧ x < 256 := by
    intro x hx
    rw [List.nil_append] at hx
    rcases List.mem_append.1 hx with h | h
    · rcases List.mem_append.1 h with h | h
      · exact enc_bytes _ x h
      · exact nums_bytes s x h
    · exact hb x h
  have hc : countP (([] : List Int) ++ enc (s.size : Int) ++ bytesOf s ++ b) (s.size : Int) = ((s.size : Int), (enc (s.size : Int)).length, 0) := by
    rw [List.nil_append, List.append_assoc]
    exact count_enc _ _ _ (by omega) (by omega) (Int.le_refl _)
  have hd : (([] : List Int) ++ enc (s.size : Int) ++ bytesOf s ++ b).drop (enc (s.size : Int)).length = bytesOf s ++ b := by
    rw [List.nil_append, List.append_assoc]; simp
  have hd2 : (([] : List Int) ++ enc (s.size : Int) ++ bytesOf s ++ b).drop ((enc (s.size : Int)).length + s.size) = b := by
    rw [← List.drop_drop, hd, ← hn]; simp
  have ht : textP (([] : List Int) ++ enc (s.size : Int) ++ bytesOf s ++ b) (s.size : Int) = (s, (enc (s.size : Int)).length + s.size, 0) := by
    unfold textP
    rw [hc, if_pos rfl, if_neg (by rw [lc_append, lc_append]; simp; omega), hd, Int.toNat_natCast]
    have : (bytesOf s ++ b).take s.size = bytesOf s := by rw [← hn]; simp
    rw [this, str_nums]
  simp only [hallmarklaw03_WireTexts.j0]
  rw [if_neg (by decide), putText_is k (by omega) [] s (by simp) hs, Option.bind_some, if_pos g, takeText_is k hk _ _ hbb, Option.bind_some, ht]
  simp only [if_true]
  rw [hd2, if_pos rfl, lives_is k hk, Option.bind_some]
theorem main (k : Nat) (hk : 30 ≤ k) (s : ByteArray) (b : List Int) (m : Int) (hs : s.size ≤ 1048576) (hl : b.length ≤ 1048576) (hb : ∀ x ∈ b, 0 ≤ x ∧ x < 256) :
    hallmarklaw03_WireTexts.f (k + 1) s b m = some true := by
  have hj := back_is k hk s b hs hl hb
  unfold hallmarklaw03_WireTexts.f
  rw [own_is b (by omega), Option.bind_some, putText_is _ (by omega) b s (by omega) hs, Option.bind_some, ref_putText_is k (by omega) b s (by omega) hs, Option.bind_some, if_pos rfl, Option.bind_some,
    takeText_is _ (by omega) b m hb, Option.bind_some, ref_takeText_is _ (by omega) b m (by omega) hb, Option.bind_some, if_pos rfl, if_pos rfl]
  by_cases h : (textP b m).2.2 = 0
  · have hk : (textP b m).2.1 ≤ b.length := by
      unfold textP at h ⊢
      by_cases h1 : (countP b m).2.2 = 0
      · obtain ⟨c0, c1, c2, c3, _⟩ := count_told b m hb h1
        rw [if_pos h1] at h ⊢
        by_cases hg : (countP b m).1 > (b.length : Int) - ((countP b m).2.1 : Int)
        · rw [if_pos hg] at h; cases h
        · rw [if_neg hg]; show (countP b m).2.1 + (countP b m).1.toNat ≤ b.length; omega
      · rw [if_neg h1]; exact Nat.zero_le _
    have f1 : (0 : Int) ≤ ((textP b m).2.1 : Int) := Int.natCast_nonneg _
    have f2 : ((textP b m).2.1 : Int) ≤ (b.length : Int) := by omega
    rw [if_pos h, if_pos f1, if_pos f2, if_pos h, Int.toNat_natCast, bne_self_eq_false]
    exact hj
  · rw [if_neg h, if_neg h, if_neg (show ¬ (((([] : List Int)).length : Int) > 0) from by decide)]
    exact hj
theorem upto (s : ByteArray) (b : List Int) (m : Int) (hs : s.size ≤ 1048576) (hl : b.length ≤ 1048576) (hb : ∀ x ∈ b, (Lit.int .u8 x).wf = true) : ∃ k, hallmarklaw03_WireTexts.f k s b m = some true :=
  ⟨30 + 1, main 30 (Nat.le_refl _) s b m hs hl (bytes_of b hb)⟩
end Go.Proofs.Ytblahbenbknbmaa.Pure
