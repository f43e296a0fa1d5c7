/- Which bytes a list is, and which list any bytes begin with, or why none: proved for all lists and bytes of at most 1,048,576 each. -/
import Derived.Test.YtblahbenbknbmaaCalcWireLists
namespace Go.Proofs.Ytblahbenbknbmaa.Pure
open Go.RowKit Go.Proofs.YtblahbenbknbmaaW.PrintWords Go.Proofs.YtblahbenbknbmaaW.PrintLast Go.Proofs.YtblahbenbknbmaaW.PrintMore Go.Proofs.Ytblahbenbknbmaa.PWireLists Go.Proofs.Ytblahbenbknbmaa.BaseWireLists Go.Proofs.Ytblahbenbknbmaa.NumWireLists Go.Proofs.Ytblahbenbknbmaa.CalcWireLists

/-- what the reference writes -/
theorem ref_put_l : ∀ (d k z : Nat) (l : List Int), z < 128 ^ (d + 1) → z < 18446744073709551616 → d < k → l.length + d + 1 ≤ 140737488355328 → hallmarkref03_Put.l0 k l (z : Int) = some (l ++ vb (d + 1) z) := by
  intro d
  induction d with
  | zero =>
    intro k z l hz hz2 hk hl
    obtain ⟨k, rfl⟩ : ∃ m, k = m + 1 := ⟨k - 1, by omega⟩
    have hz' : z < 128 := by simpa using hz
    have e : ((z : Int) % 256) = (z : Int) := by omega
    simp only [hallmarkref03_Put.l0]
    rw [if_neg (by omega), if_pos (by omega), e, vb, if_neg (by omega)]
  | succ d ih =>
    intro k z l hz hz2 hk hl
    obtain ⟨k, rfl⟩ : ∃ m, k = m + 1 := ⟨k - 1, by omega⟩
    by_cases h : z ≥ 128
    · have hq : z / 128 < 128 ^ (d + 1) := by
        rw [Nat.pow_succ] at hz
        exact (Nat.div_lt_iff_lt_mul (by decide)).2 hz
      have hih := ih k (z / 128) (l ++ [((z % 128 + 128 : Nat) : Int)]) hq (by omega) (by omega) (by simp; omega)
      have g1 : (z : Int) > 127 := by omega
      have g2 : l.length < 140737488355328 := by omega
      have e1 : Int.tmod (z : Int) 128 = ((z % 128 : Nat) : Int) := (Int.ofNat_tmod z 128).symm
      have e2 : Int.tdiv (z : Int) 128 = ((z / 128 : Nat) : Int) := (Int.ofNat_tdiv z 128).symm
      have e3 : IntKind.u64.wrap (128 + ((z % 128 : Nat) : Int)) % 256 = ((z % 128 + 128 : Nat) : Int) := by
        rw [u64_id (by omega) (by omega)]; omega
      have e4 : IntKind.u64.wrap ((z / 128 : Nat) : Int) = ((z / 128 : Nat) : Int) := u64_id (by clear e3; omega) (by clear e3; omega)
      have ev : vb (d + 1 + 1) z = ((z % 128 + 128 : Nat) : Int) :: vb (d + 1) (z / 128) := by rw [vb, if_pos h]
      simp only [hallmarkref03_Put.l0]
      rw [if_pos g1, if_pos g2, e1, e2, e3, e4, hih, ev]
      simp
    · have e : ((z : Int) % 256) = (z : Int) := by omega
      simp only [hallmarkref03_Put.l0]
      rw [if_neg (by omega), if_pos (by omega), e, vb, if_neg h]
theorem ref_put_is (k : Nat) (hk : 10 ≤ k) (l : List Int) (n : Int) (hl : l.length + 10 ≤ 140737488355328) (h0 : -9223372036854775808 ≤ n) (h1 : n < 9223372036854775808) : hallmarkref03_Put.f (k + 1) l n = some (l ++ enc n) := by
  have hz := zz_lt h0 h1
  have hp := ref_put_l 9 k (zz n) l (lt10 hz) hz (by omega) (by omega)
  have gl : ([] : List Int).length + l.length < 140737488355328 := by simp; omega
  unfold hallmarkref03_Put.f
  rw [Option.bind_some, if_pos gl, Option.bind_some, List.nil_append]
  by_cases h : n < 0
  · have e1 : wrap64 ((-1) - n) = -1 - n := wrap_id (by omega) (by omega)
    have e2 : IntKind.u64.wrap (-1 - n) = -1 - n := u64_id (by clear e1; omega) (by clear e1; omega)
    have e3 : IntKind.u64.wrap (2 * (-1 - n)) = 2 * (-1 - n) := u64_id (by clear e1 e2; omega) (by clear e1 e2; omega)
    have e4 : IntKind.u64.wrap (2 * (-1 - n) + 1) = (zz n : Int) := by
      rw [u64_id (by clear e1 e2 e3; omega) (by clear e1 e2 e3; omega)]
      clear e1 e2 e3
      unfold zz; rw [if_neg (by omega)]; omega
    rw [if_pos h, e1, e2, e3, e4]
    simp only [hallmarkref03_Put.j0]
    exact hp
  · have e2 : IntKind.u64.wrap n = n := u64_id (by omega) (by omega)
    have e3 : IntKind.u64.wrap (2 * n) = (zz n : Int) := by
      rw [u64_id (by clear e2; omega) (by clear e2; omega)]
      clear e2
      unfold zz; rw [if_pos (by omega)]; omega
    rw [if_neg h, e2, e3]
    simp only [hallmarkref03_Put.j0]
    exact hp

/-- what the reference takes -/
theorem ref_unzz (z : Nat) (hz : z < 18446744073709551616) (k : Int) :
    (if Int.tmod (z : Int) 2 = 1 then some (wrap64 ((-1) - (wrap64 (IntKind.u64.wrap (Int.tdiv (z : Int) 2)))), k, (0 : Int)) else some (wrap64 (IntKind.u64.wrap (Int.tdiv (z : Int) 2)), k, (0 : Int))) = some (unzz z, k, (0 : Int)) := by
  have e1 : Int.tmod (z : Int) 2 = ((z % 2 : Nat) : Int) := (Int.ofNat_tmod z 2).symm
  have e2 : Int.tdiv (z : Int) 2 = ((z / 2 : Nat) : Int) := (Int.ofNat_tdiv z 2).symm
  have e3 : IntKind.u64.wrap ((z / 2 : Nat) : Int) = ((z / 2 : Nat) : Int) := u64_id (by clear e1 e2; omega) (by clear e1 e2; omega)
  have e4 : wrap64 ((z / 2 : Nat) : Int) = ((z / 2 : Nat) : Int) := wrap_id (by clear e1 e2 e3; omega) (by clear e1 e2 e3; omega)
  have e5 : wrap64 ((-1) - ((z / 2 : Nat) : Int)) = (-1) - ((z / 2 : Nat) : Int) := wrap_id (by clear e1 e2 e3 e4; omega) (by clear e1 e2 e3 e4; omega)
  rw [e1, e2, e3, e4, e5]
  clear e1 e2 e3 e4 e5
  unfold unzz
  by_cases h : z % 2 = 0
  · rw [if_neg (by omega), if_pos h]
  · rw [if_pos (by omega), if_neg h]
theorem nat_lt (q : Nat) (h : q < 18446744073709551616) : (q : Int) < 18446744073709551616 := by omega
def refR (p : Int × Nat × Int) : Int × Int × Int := (p.1, (p.2.1 : Int), p.2.2)
theorem ref_take_j (b : List Int) (k i z c : Nat) (hi : i ≤ 9) (hz : z < 128 ^ i) (h9 : i = 9 → c ≤ 1) (hc : c < 256) :
    hallmarkref03_Take.j1 (k + 1) b (z : Int) ((128 ^ i : Nat) : Int) (i : Int) (c : Int) false =
      if c < 128 then some (refR (unzz (z + c % 128 * 128 ^ i), i + 1, 0)) else hallmarkref03_Take.l0 k b ((z + c % 128 * 128 ^ i : Nat) : Int) ((128 ^ (i + 1) : Nat) : Int) ((i + 1 : Nat) : Int) := by
  have g5 : c % 128 < 128 := Nat.mod_lt _ (by decide)
  have g6 : i = 9 → c % 128 ≤ 1 := fun h => by have := h9 h; omega
  have gp : 128 ^ i ≤ 9223372036854775808 := by rw [← pow9]; exact Nat.pow_le_pow_right (by decide) hi
  have g7 : z + c % 128 * 128 ^ i < 18446744073709551616 := by
    by_cases h : i = 9
    · have := g6 h
      rw [h, pow9] at hz ⊢
      omega
    · have hle : 128 ^ i ≤ 128 ^ 8 := Nat.pow_le_pow_right (by decide) (by omega)
      have e8 : (128 : Nat) ^ 8 = 72057594037927936 := by decide
      have hm : c % 128 * 128 ^ i ≤ 128 * 128 ^ i := Nat.mul_le_mul_right _ (by omega)
      omega
  have hm0 : c % 128 * 128 ^ i < 18446744073709551616 := by omega
  have e1 : Int.tmod (c : Int) 128 = ((c % 128 : Nat) : Int) := (Int.ofNat_tmod c 128).symm
  have e2 : IntKind.u64.wrap ((c % 128 : Nat) : Int) = ((c % 128 : Nat) : Int) := u64_id (Int.natCast_nonneg _) (by clear e1; omega)
  have e3 : IntKind.u64.wrap (((c % 128 : Nat) : Int) * ((128 ^ i : Nat) : Int)) = ((c % 128 * 128 ^ i : Nat) : Int) := by
    rw [← Int.natCast_mul]
    exact u64_id (Int.natCast_nonneg _) (nat_lt _ hm0)
  have e4 : IntKind.u64.wrap ((z : Int) + ((c % 128 * 128 ^ i : Nat) : Int)) = ((z + c % 128 * 128 ^ i : Nat) : Int) := by
    rw [← Int.natCast_add]
    exact u64_id (Int.natCast_nonneg _) (nat_lt _ g7)
  have e5 : wrap64 ((i : Int) + 1) = ((i + 1 : Nat) : Int) := by rw [wrap_id (by clear e1 e2 e3 e4; omega) (by clear e1 e2 e3 e4; omega)]; rfl
  simp only [hallmarkref03_Take.j1]
  rw [if_neg (by decide), e1, e2, e3, e4, e5, ref_unzz _ g7]
  by_cases h : c < 128
  · rw [if_pos (show (c : Int) < 128 by clear e1 e2 e3 e4 e5; omega), if_pos h]; rfl
  · rw [if_neg (show ¬ (c : Int) < 128 by clear e1 e2 e3 e4 e5; omega), if_neg h]
    have h8 : i ≠ 9 := fun h' => by have := h9 h'; clear e1 e2 e3 e4 e5; omega
    have e6 : IntKind.u64.wrap (((128 ^ i : Nat) : Int) * 128) = ((128 ^ (i + 1) : Nat) : Int) := by
      have hp : 128 ^ (i + 1) ≤ 9223372036854775808 := by rw [← pow9]; exact Nat.pow_le_pow_right (by decide) (by clear e1 e2 e3 e4 e5; omega)
      have he : ((128 ^ i : Nat) : Int) * 128 = ((128 ^ (i + 1) : Nat) : Int) := by rw [pow_step]; exact (Int.natCast_mul _ 128).symm
      rw [he]
      exact u64_id (Int.natCast_nonneg _) (by clear e1 e2 e3 e4 e5 he; omega)
    rw [e6]
theorem ref_take_l (b : List Int) (hb : ∀ x ∈ b, 0 ≤ x ∧ x < 256) : ∀ (d k i z : Nat), d + i = 10 → 2 * d + 1 < k → z < 128 ^ i →
    hallmarkref03_Take.l0 k b (z : Int) ((128 ^ i : Nat) : Int) (i : Int) = some (refR (tkP b d i z)) ∨ d = 0 := by
  intro d
  induction d with
  | zero => intro k i z _ _ _; exact .inr rfl
  | succ d ih =>
    intro k i z hd hk hz
    left
    obtain ⟨k, rfl⟩ : ∃ m, k = m + 1 + 1 := ⟨k - 2, by omega⟩
    have g9 : i ≤ 9 := by omega
    rw [tkP]
    by_cases hl : i < b.length
    · have er : rd b (i : Int) = b[i] := by unfold rd; simp [hl]
      have hr := hb _ (List.getElem_mem hl)
      obtain ⟨c, ec⟩ : ∃ c : Nat, b[i] = (c : Int) := ⟨b[i].toNat, by omega⟩
      have hc : c < 256 := by omega
      have l1 : (i : Int) < (b.length : Int) := by omega
      have l2 : (0 : Int) ≤ (i : Int) := Int.natCast_nonneg i
      have fin : ∀ (h9 : i = 9 → c ≤ 1), hallmarkref03_Take.j1 (k + 1) b (z : Int) ((128 ^ i : Nat) : Int) (i : Int) (c : Int) false =
          some (refR (if c < 128 then (unzz (z + c % 128 * 128 ^ i), i + 1, 0) else tkP b d (i + 1) (z + c % 128 * 128 ^ i))) := by
        intro h9
        rw [ref_take_j b k i z c g9 hz h9 hc]
        by_cases h : c < 128
        · rw [if_pos h, if_pos h]
        · rw [if_neg h, if_neg h]
          have hz' : z + c % 128 * 128 ^ i < 128 ^ (i + 1) := by
            have hm : c % 128 * 128 ^ i ≤ 127 * 128 ^ i := Nat.mul_le_mul_right _ (by omega)
            rw [pow_step]; omega
          rcases ih k (i + 1) _ (by omega) (by omega) hz' with g | g
          · exact g
          · exfalso
            have : i = 9 := by omega
            have := h9 this
            omega
      have stop : hallmarkref03_Take.j1 (k + 1) b (z : Int) ((128 ^ i : Nat) : Int) (i : Int) (c : Int) true = some (refR (0, 0, 4)) := by
        simp only [hallmarkref03_Take.j1]
        rw [if_pos trivial]; rfl
      have bq : ∀ y : Bool, ((((c : Int) == 0)) = y) → (if c = 0 then true else false) = y := by
        intro y hy
        rw [← hy]
        by_cases h : c = 0
        · rw [if_pos h, h]; rfl
        · rw [if_neg h]; exact (beq_eq_false_iff_ne.mpr (by omega)).symm
      have bz : (((c : Int) == 0)) = (if c = 0 then true else false) := (bq _ rfl).symm
      simp only [hallmarkref03_Take.l0]
      rw [if_pos l1, if_pos l2, er, ec, if_pos hl, Int.toNat_natCast, bz]
      by_cases h9 : i = 9
      · rw [if_pos (by omega)]
        by_cases hc1 : c > 1
        · rw [if_pos (by omega), if_pos (.inl ⟨h9, hc1⟩), stop]
        · rw [if_neg (by omega), if_pos (by omega)]
          by_cases hc0 : c = 0
          · rw [if_pos hc0, if_pos (.inr ⟨by omega, hc0⟩), stop]
          · rw [if_neg hc0, if_neg (by omega)]
            exact fin (fun _ => by omega)
      · rw [if_neg (by omega)]
        by_cases hi0 : 0 < i
        · rw [if_pos (by omega)]
          by_cases hc0 : c = 0
          · rw [if_pos hc0, if_pos (.inr ⟨hi0, hc0⟩), stop]
          · rw [if_neg hc0, if_neg (by omega)]
            exact fin (fun h => absurd h h9)
        · rw [if_neg (by omega), if_neg (by omega)]
          exact fin (fun h => absurd h h9)
    · simp only [hallmarkref03_Take.l0]
      rw [if_neg (by omega), if_neg hl]; rfl
theorem ref_take_is (k : Nat) (hk : 30 ≤ k) (b : List Int) (hb : ∀ x ∈ b, 0 ≤ x ∧ x < 256) : hallmarkref03_Take.f k b = some (refR (takeP b)) := by
  unfold hallmarkref03_Take.f takeP
  rcases ref_take_l b hb 10 k 0 0 rfl (by omega) (by decide) with g | g
  · exact g
  · cases g

theorem lc_append (l r : List Int) : (l ++ r).length = l.length + r.length := List.length_append
theorem nums_size (s : ByteArray) : (bytesOf s).length = s.size := bytesOf_length s
theorem nums_bytes (s : ByteArray) : ∀ x ∈ bytesOf s, 0 ≤ x ∧ x < 256 := by
  intro x hx
  unfold bytesOf at hx
  obtain ⟨b, _, rfl⟩ := List.mem_map.1 hx
  have := b.toNat_lt
  omega
theorem str_nums (s : ByteArray) : strOfNums (bytesOf s) = s := by
  have e : (bytesOf s).map (fun n => UInt8.ofNat n.toNat) = s.data.toList := by
    unfold bytesOf
    rw [List.map_map]
    have : ((fun n : Int => UInt8.ofNat n.toNat) ∘ fun b : UInt8 => (b.toNat : Int)) = id := by
      funext b
      simp
    rw [this, List.map_id]
  unfold strOfNums
  rw [e]
/-- how many there are -/
def countP (b : List Int) (most : Int) : Int × Nat × Int :=
  if (takeP b).2.2 = 0 then (if (takeP b).1 < 0 then (0, 0, 4) else if (takeP b).1 > most then (0, 0, 2) else takeP b) else (0, 0, (takeP b).2.2)
theorem count_is (k : Nat) (hk : 30 ≤ k) (b : List Int) (m : Int) (hb : ∀ x ∈ b, 0 ≤ x ∧ x < 256) : wire_count.f k b m = some (takeR b (countP b m)) := by
  unfold wire_count.f
  rw [take_is k hk b hb, Option.bind_some]
  unfold countP
  by_cases h : (takeP b).2.2 = 0
  · have e : (takeR b (takeP b)).2.2 = 0 := h
    have e1 : (takeR b (takeP b)).1 = (takeP b).1 := rfl
    rw [if_pos h, if_pos e, e1]
    by_cases h0 : (takeP b).1 < 0
    · rw [if_pos h0, if_pos h0]; rfl
    · rw [if_neg h0, if_neg h0]
      by_cases hm : (takeP b).1 > m
      · rw [if_pos hm, if_pos hm]; rfl
      · rw [if_neg hm, if_neg hm]
        unfold takeR
        rw [h]
  · have e : ¬ (takeR b (takeP b)).2.2 = 0 := h
    rw [if_neg h, if_neg e]
    show some (0, ([] : List Int), (takeP b).2.2) = some (0, (if (takeP b).2.2 = 0 then b.drop 0 else []), (takeP b).2.2)
    rw [if_neg h]
theorem ref_count_is (k : Nat) (hk : 30 ≤ k) (b : List Int) (m : Int) (hb : ∀ x ∈ b, 0 ≤ x ∧ x < 256) : hallmarkref03_Count.f k b m = some (refR (countP b m)) := by
  unfold hallmarkref03_Count.f
  rw [ref_take_is k hk b hb, Option.bind_some]
  unfold countP
  by_cases h : (takeP b).2.2 = 0
  · have e : (refR (takeP b)).2.2 = 0 := h
    have e1 : (refR (takeP b)).1 = (takeP b).1 := rfl
    rw [if_pos h, if_pos e, e1]
    by_cases h0 : (takeP b).1 < 0
    · rw [if_pos h0, if_pos h0]; rfl
    · rw [if_neg h0, if_neg h0]
      by_cases hm : (takeP b).1 > m
      · rw [if_pos hm, if_pos hm]; rfl
      · rw [if_neg hm, if_neg hm]
        unfold refR
        rw [h]
  · have e : ¬ (refR (takeP b)).2.2 = 0 := h
    rw [if_neg h, if_neg e]
    rfl
theorem count_told (b : List Int) (m : Int) (hb : ∀ x ∈ b, 0 ≤ x ∧ x < 256) (h : (countP b m).2.2 = 0) : 0 ≤ (countP b m).1 ∧ (countP b m).1 < 9223372036854775808 ∧ (countP b m).2.1 ≤ b.length ∧ (countP b m).1 ≤ m ∧ takeP b = countP b m := by
  unfold countP at h ⊢
  by_cases h1 : (takeP b).2.2 = 0
  · rw [if_pos h1] at h ⊢
    by_cases h0 : (takeP b).1 < 0
    · rw [if_pos h0] at h; cases h
    · rw [if_neg h0] at h ⊢
      by_cases hm : (takeP b).1 > m
      · rw [if_pos hm] at h; cases h
      · rw [if_neg hm]
        have := take_told b hb (takeP b).1 (takeP b).2.1 (by rw [← h1])
        exact ⟨by omega, this.2.2.2.2, this.2.2.1, by omega, rfl⟩
  · rw [if_neg h1] at h; exact absurd h h1
theorem count_enc (n m : Int) (r : List Int) (h0 : 0 ≤ n) (h1 : n < 9223372036854775808) (hm : n ≤ m) : countP (enc n ++ r) m = (n, (enc n).length, 0) := by
  unfold countP
  rw [take_enc n r (by omega) h1, if_pos rfl, if_neg (by omega), if_neg (by omega)]

/-- the bytes of numbers, one behind the other -/
def encs : List Int → List Int
  | [] => []
  | n :: r => enc n ++ encs r
theorem encs_le : ∀ l : List Int, (encs l).length ≤ 10 * l.length
  | [] => Nat.le_refl _
  | n :: r => by
    have h1 := enc_le n
    have h2 := encs_le r
    rw [encs, lc_append, List.length_cons]
    omega
theorem encs_long : ∀ l : List Int, l.length ≤ (encs l).length
  | [] => Nat.le_refl _
  | n :: r => by
    have h1 := enc_pos n
    have h2 := encs_long r
    rw [encs, lc_append, List.length_cons]
    omega
theorem encs_bytes : ∀ l : List Int, ∀ x ∈ encs l, 0 ≤ x ∧ x < 256
  | [], x, h => by cases h
  | n :: r, x, h => by
    rw [encs] at h
    rcases List.mem_append.1 h with h | h
    · exact enc_bytes n x h
    · exact encs_bytes r x h
theorem drop_at (l : List Int) (i : Nat) (h : i < l.length) : l.drop i = l[i] :: l.drop (i + 1) := List.drop_eq_getElem_cons h
theorem rd_at (l : List Int) (i : Nat) (h : i < l.length) : rd l (i : Int) = l[i] := by unfold rd; simp [h]
def InRange (l : List Int) : Prop := ∀ x ∈ l, -9223372036854775808 ≤ x ∧ x < 9223372036854775808
theorem putList_l (l : List Int) (hl : l.length ≤ 1048576) (hr : InRange l) : ∀ (d k i : Nat) (acc : List Int), d + i = l.length → d + 31 ≤ k → acc.length + 10 * d ≤ 134217728 →
    wire_PutList.l0 k acc l (l.length : Int) (i : Int) = some (acc ++ encs (l.drop i)) := by
  intro d
  induction d with
  | zero =>
    intro k i acc hd hk ha
    obtain ⟨k, rfl⟩ : ∃ m, k = m + 1 := ⟨k - 1, by omega⟩
    simp only [wire_PutList.l0]
    rw [if_neg (by omega), List.drop_of_length_le (by omega), encs, List.append_nil]
  | succ d ih =>
    intro k i acc hd hk ha
    obtain ⟨k, rfl⟩ : ∃ m, k = m + 1 := ⟨k - 1, by omega⟩
    have hi : i < l.length := by omega
    have h1 := hr _ (List.getElem_mem hi)
    have he := enc_le l[i]
    have ew : wrap64 ((i : Int) + 1) = ((i + 1 : Nat) : Int) := by rw [wrap_id (by omega) (by omega)]; rfl
    simp only [wire_PutList.l0]
    rw [if_pos (by omega), if_pos (by omega), if_pos (by omega), rd_at l i hi, put_is k (by omega) acc l[i] (by omega) h1.1 h1.2, Option.bind_some, ew,
      ih k (i + 1) _ (by omega) (by omega) (by rw [lc_append]; omega), drop_at l i hi, encs, List.append_assoc]
theorem ref_putList_l (l : List Int) (hl : l.length ≤ 1048576) (hr : InRange l) : ∀ (d k i : Nat) (acc : List Int), d + i = l.length → d + 31 ≤ k → acc.length + 10 * d ≤ 134217728 →
    hallmarkref03_PutList.l0 k l acc (i : Int) = some (acc ++ encs (l.drop i)) := by
  intro d
  induction d with
  | zero =>
    intro k i acc hd hk ha
    obtain ⟨k, rfl⟩ : ∃ m, k = m + 1 := ⟨k - 1, by omega⟩
    simp only [hallmarkref03_PutList.l0]
    rw [if_neg (by omega), List.drop_of_length_le (by omega), encs, List.append_nil]
  | succ d ih =>
    intro k i acc hd hk ha
    obtain ⟨k, rfl⟩ : ∃ m, k = m + 1 + 1 := ⟨k - 2, by omega⟩
    have hi : i < l.length := by omega
    have h1 := hr _ (List.getElem_mem hi)
    have he := enc_le l[i]
    have ew : wrap64 ((i : Int) + 1) = ((i + 1 : Nat) : Int) := by rw [wrap_id (by omega) (by omega)]; rfl
    have hih := ih (k + 1) (i + 1) (acc ++ enc l[i]) (by clear ew; omega) (by clear ew; omega) (by clear ew; rw [lc_append]; omega)
    have f1 : (i : Int) < (l.length : Int) := by clear ew; omega
    have f2 : (0 : Int) ≤ (i : Int) := Int.natCast_nonneg _
    rw [hallmarkref03_PutList.l0, if_pos f1, if_pos f2, rd_at l i hi, ref_put_is k (by omega) acc l[i] (by omega) h1.1 h1.2, Option.bind_some, ew, hih, drop_at l i hi, encs, List.append_assoc]
theorem putList_is (k : Nat) (l r : List Int) (hk : r.length + 40 ≤ k) (hl : l.length ≤ 2097152) (hr0 : r.length ≤ 1048576) (hr : InRange r) : wire_PutList.f k l r = some (l ++ enc (r.length : Int) ++ encs r) := by
  have he := enc_le (r.length : Int)
  unfold wire_PutList.f
  rw [clone_is l (by omega), Option.bind_some, put_is k (by omega) l _ (by omega) (by omega) (by omega), Option.bind_some]
  exact putList_l r hr0 hr r.length k 0 _ (by omega) (by omega) (by rw [lc_append]; omega)
theorem ref_putList_is (k : Nat) (l r : List Int) (hk : r.length + 40 ≤ k) (hl : l.length ≤ 1048576) (hr0 : r.length ≤ 1048576) (hr : InRange r) : hallmarkref03_PutList.f k l r = some (l ++ enc (r.length : Int) ++ encs r) := by
  have he := enc_le (r.length : Int)
  obtain ⟨k, rfl⟩ : ∃ m, k = m + 1 := ⟨k - 1, by omega⟩
  unfold hallmarkref03_PutList.f
  rw [ref_put_is k (by omega) l _ (by omega) (by omega) (by omega), Option.bind_some]
  exact ref_putList_l r hr0 hr r.length (k + 1) 0 _ (by omega) (by omega) (by rw [lc_append]; omega)
/-- the numbers that bytes begin with, from place p on -/
def tkL (B : List Int) : Nat → Nat → List Int → Int → Nat → List Int × Nat × Int
  | 0, _, _, _, _ => ([], 0, 9)
  | d + 1, p, acc, n, i => if (i : Int) < n then (if (takeP (B.drop p)).2.2 = 0 then tkL B d (p + (takeP (B.drop p)).2.1) (acc ++ [(takeP (B.drop p)).1]) n (i + 1) else ([], 0, (takeP (B.drop p)).2.2)) else (acc, p, 0)
def listR (B : List Int) (t : List Int × Nat × Int) : List Int × List Int × Int := (t.1, (if t.2.2 = 0 then B.drop t.2.1 else []), t.2.2)
def listI (t : List Int × Nat × Int) : List Int × Int × Int := (t.1, (t.2.1 : Int), t.2.2)
theorem drop_bytes (B : List Int) (hb : ∀ x ∈ B, 0 ≤ x ∧ x < 256) (p : Nat) : ∀ x ∈ B.drop p, 0 ≤ x ∧ x < 256 := fun x hx => hb x (List.mem_of_mem_drop hx)
theorem takeP_step (B : List Int) (hb : ∀ x ∈ B, 0 ≤ x ∧ x < 256) (p : Nat) (hp : p ≤ B.length) (h : (takeP (B.drop p)).2.2 = 0) : 1 ≤ (takeP (B.drop p)).2.1 ∧ p + (takeP (B.drop p)).2.1 ≤ B.length := by
  obtain ⟨_, t2, t3, _, _⟩ := take_told (B.drop p) (drop_bytes B hb p) (takeP (B.drop p)).1 (takeP (B.drop p)).2.1 (by rw [← h])
  have h1 := enc_pos (takeP (B.drop p)).1
  rw [List.length_drop] at t3
  omega
theorem takeP_nil : takeP [] = (0, 0, 3) := by decide
theorem takeList_l (B : List Int) (hb : ∀ x ∈ B, 0 ≤ x ∧ x < 256) (hB : B.length ≤ 134217728) (n : Int) : ∀ (d k p i : Nat) (acc : List Int), B.length < d + p → d + 31 ≤ k → p ≤ B.length → i ≤ p → acc.length = i →
    wire_TakeList.l0 k (B.drop p) acc n (i : Int) = some (listR B (tkL B d p acc n i)) := by
  intro d
  induction d with
  | zero => intro k p i acc h _ h2; omega
  | succ d ih =>
    intro k p i acc hd hk hp hi ha
    obtain ⟨k, rfl⟩ : ∃ m, k = m + 1 := ⟨k - 1, by omega⟩
    have g : acc.length < 17592186044416 := by omega
    rw [tkL, wire_TakeList.l0]
    by_cases hn : (i : Int) < n
    · rw [if_pos hn, if_pos hn, take_is k (by omega) _ (drop_bytes B hb p), Option.bind_some]
      by_cases h : (takeP (B.drop p)).2.2 = 0
      · obtain ⟨s1, s2⟩ := takeP_step B hb p hp h
        have hih := ih k (p + (takeP (B.drop p)).2.1) (i + 1) (acc ++ [(takeP (B.drop p)).1]) (by omega) (by omega) s2 (by omega) (by rw [lc_append, ha]; rfl)
        have e : (takeR (B.drop p) (takeP (B.drop p))).2.2 = 0 := h
        have e1 : (takeR (B.drop p) (takeP (B.drop p))).1 = (takeP (B.drop p)).1 := rfl
        have e2 : (takeR (B.drop p) (takeP (B.drop p))).2.1 = B.drop (p + (takeP (B.drop p)).2.1) := by
          have : (takeR (B.drop p) (takeP (B.drop p))).2.1 = (B.drop p).drop (takeP (B.drop p)).2.1 := if_pos h
          rw [this, List.drop_drop]
        have ew : wrap64 ((i : Int) + 1) = ((i + 1 : Nat) : Int) := by clear e e1 e2 hih; rw [wrap_id (by omega) (by omega)]; rfl
        rw [if_pos h, if_pos e, if_pos g, e1, e2, ew, hih]
      · have e : ¬ (takeR (B.drop p) (takeP (B.drop p))).2.2 = 0 := h
        rw [if_neg h, if_neg e]
        show some (([] : List Int), ([] : List Int), (takeP (B.drop p)).2.2) = some (([] : List Int), (if (takeP (B.drop p)).2.2 = 0 then B.drop 0 else []), (takeP (B.drop p)).2.2)
        rw [if_neg h]
    · rw [if_neg hn, if_neg hn]; rfl
theorem ref_takeList_l (B : List Int) (hb : ∀ x ∈ B, 0 ≤ x ∧ x < 256) (hB : B.length ≤ 134217728) (n : Int) : ∀ (d k p i : Nat) (acc : List Int), B.length < d + p → d + 32 ≤ k → p ≤ B.length → i ≤ p → acc.length = i →
    hallmarkref03_TakeList.l0 k B n (p : Int) 0 acc (i : Int) = some (listI (tkL B d p acc n i)) := by
  intro d
  induction d with
  | zero => intro k p i acc h _ h2; omega
  | succ d ih =>
    intro k p i acc hd hk hp hi ha
    obtain ⟨k, rfl⟩ : ∃ m, k = m + 1 + 1 := ⟨k - 2, by omega⟩
    rw [tkL, hallmarkref03_TakeList.l0, if_pos rfl]
    by_cases hn : (i : Int) < n
    · have f1 : (0 : Int) ≤ (p : Int) := Int.natCast_nonneg _
      have f2 : (p : Int) ≤ (B.length : Int) := by omega
      have g : acc.length < 17592186044416 := by omega
      have ew : wrap64 ((i : Int) + 1) = ((i + 1 : Nat) : Int) := by rw [wrap_id (by omega) (by omega)]; rfl
      rw [if_pos hn, if_pos hn, if_pos f1, if_pos f2, Int.toNat_natCast, ref_take_is (k + 1) (by clear ew; omega) _ (drop_bytes B hb p), Option.bind_some, if_pos g]
      rw [ew]
      by_cases h : (takeP (B.drop p)).2.2 = 0
      · obtain ⟨s1, s2⟩ := takeP_step B hb p hp h
        have hih := ih (k + 1) (p + (takeP (B.drop p)).2.1) (i + 1) (acc ++ [(takeP (B.drop p)).1]) (by clear ew; omega) (by clear ew; omega) s2 (by clear ew; omega) (by rw [lc_append, ha]; rfl)
        have b0 : -9223372036854775808 ≤ ((p : Int) + ((takeP (B.drop p)).2.1 : Int)) := by clear ew hih; omega
        have b1 : ((p : Int) + ((takeP (B.drop p)).2.1 : Int)) < 9223372036854775808 := by clear ew hih; omega
        have e : (refR (takeP (B.drop p))).2.2 = 0 := h
        have e1 : (refR (takeP (B.drop p))).1 = (takeP (B.drop p)).1 := rfl
        have e2 : wrap64 ((p : Int) + (refR (takeP (B.drop p))).2.1) = ((p + (takeP (B.drop p)).2.1 : Nat) : Int) := by
          show wrap64 ((p : Int) + ((takeP (B.drop p)).2.1 : Int)) = _
          rw [wrap_id b0 b1]; rfl
        rw [if_pos h, e, e1, e2, hih]
      · have e : ¬ (refR (takeP (B.drop p))).2.2 = 0 := h
        rw [if_neg h, hallmarkref03_TakeList.l0, if_neg e]; rfl
    · rw [if_neg hn, if_neg hn]; rfl
def listP (B : List Int) (m : Int) : List Int × Nat × Int := if (countP B m).2.2 = 0 then tkL B (B.length + 1) (countP B m).2.1 [] (countP B m).1 0 else ([], 0, (countP B m).2.2)
theorem takeList_is (k : Nat) (B : List Int) (m : Int) (hk : B.length + 40 ≤ k) (hb : ∀ x ∈ B, 0 ≤ x ∧ x < 256) (hB : B.length ≤ 134217728) : wire_TakeList.f k B m = some (listR B (listP B m)) := by
  unfold wire_TakeList.f listP
  rw [count_is k (by omega) B m hb, Option.bind_some]
  by_cases h : (countP B m).2.2 = 0
  · obtain ⟨c0, c1, c2, c3, _⟩ := count_told B m hb h
    have e : (takeR B (countP B m)).2.2 = 0 := h
    have e1 : (takeR B (countP B m)).1 = (countP B m).1 := rfl
    have e2 : (takeR B (countP B m)).2.1 = B.drop (countP B m).2.1 := if_pos h
    rw [if_pos h, if_pos e, e1, e2]
    exact takeList_l B hb hB _ (B.length + 1) k _ 0 [] (by omega) (by omega) c2 (Nat.zero_le _) rfl
  · have e : ¬ (takeR B (countP B m)).2.2 = 0 := h
    rw [if_neg h, if_neg e]
    show some (([] : List Int), ([] : List Int), (countP B m).2.2) = some (([] : List Int), (if (countP B m).2.2 = 0 then B.drop 0 else []), (countP B m).2.2)
    rw [if_neg h]
theorem ref_takeList_is (k : Nat) (B : List Int) (m : Int) (hk : B.length + 40 ≤ k) (hb : ∀ x ∈ B, 0 ≤ x ∧ x < 256) (hB : B.length ≤ 134217728) : hallmarkref03_TakeList.f k B m = some (listI (listP B m)) := by
  unfold hallmarkref03_TakeList.f listP
  rw [ref_count_is k (by omega) B m hb, Option.bind_some]
  by_cases h : (countP B m).2.2 = 0
  · obtain ⟨c0, c1, c2, c3, _⟩ := count_told B m hb h
    have e : (refR (countP B m)).2.2 = 0 := h
    have e1 : (refR (countP B m)).1 = (countP B m).1 := rfl
    have e2 : (refR (countP B m)).2.1 = ((countP B m).2.1 : Int) := rfl
    rw [if_pos h, e, e1, e2]
    exact ref_takeList_l B hb hB _ (B.length + 1) k _ 0 [] (by omega) (by omega) c2 (Nat.zero_le _) rfl
  · obtain ⟨k, rfl⟩ : ∃ m, k = m + 1 := ⟨k - 1, by omega⟩
    have e : ¬ (refR (countP B m)).2.2 = 0 := h
    rw [if_neg h, hallmarkref03_TakeList.l0, if_neg e]; rfl
/-- what is taken lies within the bytes -/
theorem tkL_cut (B : List Int) (hb : ∀ x ∈ B, 0 ≤ x ∧ x < 256) (n : Int) : ∀ (d p i : Nat) (acc : List Int), p ≤ B.length → (tkL B d p acc n i).2.2 = 0 → (tkL B d p acc n i).2.1 ≤ B.length := by
  intro d
  induction d with
  | zero => intro p i acc hp h; rw [tkL]; exact Nat.zero_le _
  | succ d ih =>
    intro p i acc hp h
    rw [tkL] at h ⊢
    by_cases hn : (i : Int) < n
    · rw [if_pos hn] at h ⊢
      by_cases h1 : (takeP (B.drop p)).2.2 = 0
      · rw [if_pos h1] at h ⊢
        exact ih _ _ _ (takeP_step B hb p hp h1).2 h
      · rw [if_neg h1]; exact Nat.zero_le _
    · rw [if_neg hn]; exact hp
theorem listP_cut (B : List Int) (m : Int) (hb : ∀ x ∈ B, 0 ≤ x ∧ x < 256) (h : (listP B m).2.2 = 0) : (listP B m).2.1 ≤ B.length := by
  unfold listP at h ⊢
  by_cases h1 : (countP B m).2.2 = 0
  · rw [if_pos h1] at h ⊢
    exact tkL_cut B hb _ _ _ _ _ (count_told B m hb h1).2.2.1 h
  · rw [if_neg h1]; exact Nat.zero_le _
/-- numbers that were written come back -/
theorem tkL_encs (B r : List Int) : ∀ (l : List Int) (d p i : Nat) (acc : List Int), InRange l → l.length < d → B.drop p = encs l ++ r → tkL B d p acc ((i + l.length : Nat) : Int) i = (acc ++ l, p + (encs l).length, 0)
  | [], d, p, i, acc, _, hd, _ => by
    obtain ⟨d, rfl⟩ : ∃ m, d = m + 1 := ⟨d - 1, by simp at hd; omega⟩
    rw [tkL, if_neg (by simp), List.append_nil, encs]; rfl
  | x :: l, d, p, i, acc, hl, hd, hB => by
    obtain ⟨d, rfl⟩ : ∃ m, d = m + 1 := ⟨d - 1, by simp at hd; omega⟩
    have hx := hl x List.mem_cons_self
    have ht : takeP (B.drop p) = (x, (enc x).length, 0) := by
      rw [hB, encs, List.append_assoc]
      exact take_enc x _ hx.1 hx.2
    have hB' : B.drop (p + (enc x).length) = encs l ++ r := by
      rw [← List.drop_drop, hB, encs, List.append_assoc]; simp
    have hih := tkL_encs B r l d (p + (enc x).length) (i + 1) (acc ++ [x]) (fun y hy => hl y (List.mem_cons_of_mem _ hy)) (by simp at hd; omega) hB'
    have en : (((i + 1) + l.length : Nat) : Int) = ((i + (x :: l).length : Nat) : Int) := by rw [List.length_cons]; omega
    rw [en] at hih
    rw [tkL, if_pos (by rw [List.length_cons]; omega), ht, if_pos rfl, hih, encs, lc_append]
    simp; omega
theorem same_l (l : List Int) (hl : l.length ≤ 9223372036854775000) : ∀ (d k i : Nat), d + i = l.length → d < k → hallmarklaw03_same.l0 k l l (i : Int) = some true := by
  intro d
  induction d with
  | zero =>
    intro k i hd hk
    obtain ⟨k, rfl⟩ : ∃ m, k = m + 1 := ⟨k - 1, by omega⟩
    simp only [hallmarklaw03_same.l0]
    rw [if_neg (by omega)]
  | succ d ih =>
    intro k i hd hk
    obtain ⟨k, rfl⟩ : ∃ m, k = m + 1 := ⟨k - 1, by omega⟩
    have ew : wrap64 ((i : Int) + 1) = ((i + 1 : Nat) : Int) := by rw [wrap_id (by omega) (by omega)]; rfl
    have hih := ih k (i + 1) (by clear ew; omega) (by clear ew; omega)
    simp only [hallmarklaw03_same.l0]
    rw [if_pos (by omega), if_pos (by omega), if_pos (by omega), if_pos trivial, ew, hih]
theorem same_is (k : Nat) (l : List Int) (hk : l.length < k) (hl : l.length ≤ 9223372036854775000) : hallmarklaw03_same.f k l l = some true := by
  unfold hallmarklaw03_same.f
  rw [if_pos rfl]
  exact same_l l hl l.length k 0 (by omega) hk
theorem tkL_len (B : List Int) (hb : ∀ x ∈ B, 0 ≤ x ∧ x < 256) (n : Int) : ∀ (d p i : Nat) (acc : List Int), p ≤ B.length → acc.length ≤ p → (tkL B d p acc n i).1.length ≤ B.length := by
  intro d
  induction d with
  | zero => intro p i acc hp ha; rw [tkL]; exact Nat.zero_le _
  | succ d ih =>
    intro p i acc hp ha
    rw [tkL]
    by_cases hn : (i : Int) < n
    · rw [if_pos hn]
      by_cases h1 : (takeP (B.drop p)).2.2 = 0
      · rw [if_pos h1]
        have := takeP_step B hb p hp h1
        exact ih _ _ _ this.2 (by rw [lc_append, List.length_singleton]; omega)
      · rw [if_neg h1]; exact Nat.zero_le _
    · rw [if_neg hn]; exact Nat.le_trans ha hp
theorem listP_len (B : List Int) (m : Int) (hb : ∀ x ∈ B, 0 ≤ x ∧ x < 256) : (listP B m).1.length ≤ B.length := by
  unfold listP
  by_cases h1 : (countP B m).2.2 = 0
  · rw [if_pos h1]
    exact tkL_len B hb _ _ _ _ _ (count_told B m hb h1).2.2.1 (Nat.zero_le _)
  · rw [if_neg h1]; exact Nat.zero_le _
theorem listP_enc (l r : List Int) (hl : l.length ≤ 1048576) (hr : InRange l) : listP (enc (l.length : Int) ++ encs l ++ r) (l.length : Int) = (l, (enc (l.length : Int)).length + (encs l).length, 0) := by
  unfold listP
  rw [List.append_assoc, count_enc _ _ _ (by omega) (by omega) (Int.le_refl _), if_pos rfl]
  have h := tkL_encs (enc (l.length : Int) ++ (encs l ++ r)) r l ((enc (l.length : Int) ++ (encs l ++ r)).length + 1) (enc (l.length : Int)).length 0 [] hr
    (by have := encs_long l; rw [lc_append, lc_append]; omega) (by simp)
  rw [Nat.zero_add] at h
  exact h

theorem back_is (k : Nat) (hk : 16777216 ≤ k) (l b : List Int) (hl : l.length ≤ 1048576) (hbl : b.length ≤ 1048576) (hr : InRange l) (hb : ∀ x ∈ b, 0 ≤ x ∧ x < 256) :
    hallmarklaw03_WireLists.j0 (k + 1) l b false = some true := by
  have he := enc_le (l.length : Int)
  have hs := encs_le l
  have gL : (enc (l.length : Int) ++ encs l ++ b).length ≤ 12582912 := by rw [lc_append, lc_append]; omega
  have g : (([] : List Int) ++ enc (l.length : Int) ++ encs l).length + b.length < 140737488355328 := by rw [lc_append, lc_append]; simp; omega
  have g0 : ([] : List Int).length + l.length < 17592186044416 := by simp; omega
  have hbb : ∀ x ∈ enc (l.length : Int) ++ encs l ++ b, 0 ≤ x ∧ x < 256 := by
    intro x hx
    rcases List.mem_append.1 hx with h | h
    · rcases List.mem_append.1 h with h | h
      · exact enc_bytes _ x h
      · exact encs_bytes l x h
    · exact hb x h
  have hd : (enc (l.length : Int) ++ encs l ++ b).drop ((enc (l.length : Int)).length + (encs l).length) = b := by
    rw [← List.drop_drop, List.append_assoc]; simp
  have hlist : listR (enc (l.length : Int) ++ encs l ++ b) (l, (enc (l.length : Int)).length + (encs l).length, 0) = (l, b, 0) := by
    unfold listR
    rw [if_pos rfl, hd]
  simp only [hallmarklaw03_WireLists.j0]
  rw [if_neg (by decide), Option.bind_some, if_pos g0, List.nil_append, putList_is k [] l (by omega) (by simp) hl hr, Option.bind_some, if_pos g, List.nil_append,
    takeList_is k _ _ (by omega) hbb (by omega), Option.bind_some, listP_enc l b hl hr, hlist]
  show ((hallmarklaw03_same.f k l l).bind fun t262 => (if t262 = true then (if (strOfNums b).toList = (strOfNums b).toList then (if (0 : Int) = 0 then ((hallmarklaw03_lives.f k).bind fun t263 => (some t263)) else (some false)) else (some false)) else (some false))) = some true
  rw [same_is k l (by omega) (by omega), Option.bind_some, if_pos rfl, if_pos rfl, if_pos rfl, lives_is k (by omega), Option.bind_some]
theorem main (k : Nat) (hk : 16777216 ≤ k) (l b : List Int) (m : Int) (hl : l.length ≤ 1048576) (hbl : b.length ≤ 1048576) (hr : InRange l) (hb : ∀ x ∈ b, 0 ≤ x ∧ x < 256) :
    hallmarklaw03_WireLists.f (k + 1) l b m = some true := by
  have hj := back_is k hk l b hl hbl hr hb
  have g0 : ([] : List Int).length + l.length < 17592186044416 := by simp; omega
  have hlen := listP_len b m hb
  unfold hallmarklaw03_WireLists.f
  rw [own_is b (by omega), Option.bind_some, Option.bind_some, if_pos g0, List.nil_append, putList_is (k + 1) b l (by omega) (by omega) hl hr, Option.bind_some, ref_putList_is (k + 1) b l (by omega) hbl hl hr, Option.bind_some, if_pos rfl, Option.bind_some,
    takeList_is (k + 1) b m (by omega) hb (by omega), Option.bind_some, ref_takeList_is (k + 1) b m (by omega) hb (by omega), Option.bind_some]
  show ((hallmarklaw03_same.f (k + 1) (listP b m).1 (listP b m).1).bind fun t241 => _) = some true
  rw [same_is (k + 1) _ (by omega) (by omega), Option.bind_some, if_pos rfl]
  show (if (listP b m).2.2 = (listP b m).2.2 then _ else _) = some true
  rw [if_pos rfl]
  by_cases h : (listP b m).2.2 = 0
  · have hk := listP_cut b m hb h
    have f1 : (0 : Int) ≤ ((listP b m).2.1 : Int) := Int.natCast_nonneg _
    have f2 : ((listP b m).2.1 : Int) ≤ (b.length : Int) := by omega
    have e1 : (listR b (listP b m)).2.2 = 0 := h
    have e2 : (listR b (listP b m)).2.1 = b.drop (listP b m).2.1 := if_pos h
    have e3 : (listI (listP b m)).2.1 = ((listP b m).2.1 : Int) := rfl
    rw [if_pos e1, e2, e3, if_pos f1, if_pos f2, Int.toNat_natCast, bne_self_eq_false]
    exact hj
  · have e1 : ¬ (listR b (listP b m)).2.2 = 0 := h
    have e2 : (listR b (listP b m)).2.1 = [] := if_neg h
    rw [if_neg e1, e2, if_neg (show ¬ (((([] : List Int)).length : Int) > 0) from by decide)]
    exact hj
theorem upto (l b : List Int) (m : Int) (hl : l.length ≤ 1048576) (hbl : b.length ≤ 1048576) (hr : ∀ x ∈ l, (Lit.int .i64 x).wf = true) (hb : ∀ x ∈ b, (Lit.int .u8 x).wf = true) : ∃ k, hallmarklaw03_WireLists.f k l b m = some true :=
  ⟨16777216 + 1, main 16777216 (Nat.le_refl _) l b m hl hbl (fun x hx => range (hr x hx)) (bytes_of b hb)⟩
end Go.Proofs.Ytblahbenbknbmaa.Pure
