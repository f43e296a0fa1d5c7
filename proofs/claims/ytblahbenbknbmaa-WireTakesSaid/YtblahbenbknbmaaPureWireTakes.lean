/- Which number any bytes begin with, or why none; what is taken is what the number is written as: proved for all bytes that the statement lets in. -/
import Derived.Test.YtblahbenbknbmaaCalcWireTakes
namespace Go.Proofs.Ytblahbenbknbmaa.Pure
open Go.RowKit Go.Proofs.YtblahbenbknbmaaW.PrintWords Go.Proofs.YtblahbenbknbmaaW.PrintLast Go.Proofs.YtblahbenbknbmaaW.PrintMore Go.Proofs.Ytblahbenbknbmaa.PWireTakes Go.Proofs.Ytblahbenbknbmaa.BaseWireTakes Go.Proofs.Ytblahbenbknbmaa.NumWireTakes Go.Proofs.Ytblahbenbknbmaa.CalcWireTakes

/-- what the reference takes -/
theorem ref_unzz (z : Nat) (hz : z < 18446744073709551616) (k : Int) :
    (if Int.tmod (z : Int) 2 = 1 then some (wrap64 ((-1) - (wrap64 (IntKind.u64.wrap (Int.tdiv (z : Int) 2)))), k, (0 : Int)) else some (wrap64 (IntKind.u64.wrap (Int.tdiv (z : Int) 2)), k, (0 : Int))) = some (unzz z, k, (0 : Int)) := by
  have e1 : Int.tmod (z : Int) 2 = ((z % 2 : Nat) : Int) := (Int.ofNat_tmod z 2).symm
  have e2 : Int.tdiv (z : Int) 2 = ((z / 2 : Nat) : Int) := (Int.ofNat_tdiv z 2).symm
  have e3 : IntKind.u64.wrap ((z / 2 : Nat) : Int) = ((z / 2 : Nat) : Int) := u64_id (by clear e1 e2; omega) (by clear e1 e2; omega)
  have e4 : wrap64 ((z / 2 : Nat) : Int) = ((z / 2 : Nat) : Int) := wrap_id (by clear e1 e2 e3; omega) (by clear e1 e2 e3; omega)
  have e5 : wrap64 ((-1) - ((z / 2 : Nat) : Int)) = (-1) - ((z / 2 : Nat) : Int) := wrap_id (by clear e1 e2 e3 e4; omega) (by clear e1 e2 e3 e4; omega)
  rw [e1, e2, e3, e4, e5]
  clear e1 e2 e3 e4 e5
  unfold unzz
  by_cases h : z % 2 = 0
  · rw [if_neg (by omega), if_pos h]
  · rw [if_pos (by omega), if_neg h]
theorem nat_lt (q : Nat) (h : q < 18446744073709551616) : (q : Int) < 18446744073709551616 := by omega
def refR (p : Int × Nat × Int) : Int × Int × Int := (p.1, (p.2.1 : Int), p.2.2)
theorem ref_take_j (b : List Int) (k i z c : Nat) (hi : i ≤ 9) (hz : z < 128 ^ i) (h9 : i = 9 → c ≤ 1) (hc : c < 256) :
    hallmarkref03_Take.j1 (k + 1) b (z : Int) ((128 ^ i : Nat) : Int) (i : Int) (c : Int) false =
      if c < 128 then some (refR (unzz (z + c % 128 * 128 ^ i), i + 1, 0)) else hallmarkref03_Take.l0 k b ((z + c % 128 * 128 ^ i : Nat) : Int) ((128 ^ (i + 1) : Nat) : Int) ((i + 1 : Nat) : Int) := by
  have g5 : c % 128 < 128 := Nat.mod_lt _ (by decide)
  have g6 : i = 9 → c % 128 ≤ 1 := fun h => by have := h9 h; omega
  have gp : 128 ^ i ≤ 9223372036854775808 := by rw [← pow9]; exact Nat.pow_le_pow_right (by decide) hi
  have g7 : z + c % 128 * 128 ^ i < 18446744073709551616 := by
    by_cases h : i = 9
    · have := g6 h
      rw [h, pow9] at hz ⊢
      omega
    · have hle : 128 ^ i ≤ 128 ^ 8 := Nat.pow_le_pow_right (by decide) (by omega)
      have e8 : (128 : Nat) ^ 8 = 72057594037927936 := by decide
      have hm : c % 128 * 128 ^ i ≤ 128 * 128 ^ i := Nat.mul_le_mul_right _ (by omega)
      omega
  have hm0 : c % 128 * 128 ^ i < 18446744073709551616 := by omega
  have e1 : Int.tmod (c : Int) 128 = ((c % 128 : Nat) : Int) := (Int.ofNat_tmod c 128).symm
  have e2 : IntKind.u64.wrap ((c % 128 : Nat) : Int) = ((c % 128 : Nat) : Int) := u64_id (Int.natCast_nonneg _) (by clear e1; omega)
  have e3 : IntKind.u64.wrap (((c % 128 : Nat) : Int) * ((128 ^ i : Nat) : Int)) = ((c % 128 * 128 ^ i : Nat) : Int) := by
    rw [← Int.natCast_mul]
    exact u64_id (Int.natCast_nonneg _) (nat_lt _ hm0)
  have e4 : IntKind.u64.wrap ((z : Int) + ((c % 128 * 128 ^ i : Nat) : Int)) = ((z + c % 128 * 128 ^ i : Nat) : Int) := by
    rw [← Int.natCast_add]
    exact u64_id (Int.natCast_nonneg _) (nat_lt _ g7)
  have e5 : wrap64 ((i : Int) + 1) = ((i + 1 : Nat) : Int) := by rw [wrap_id (by clear e1 e2 e3 e4; omega) (by clear e1 e2 e3 e4; omega)]; rfl
  simp only [hallmarkref03_Take.j1]
  rw [if_neg (by decide), e1, e2, e3, e4, e5, ref_unzz _ g7]
  by_cases h : c < 128
  · rw [if_pos (show (c : Int) < 128 by clear e1 e2 e3 e4 e5; omega), if_pos h]; rfl
  · rw [if_neg (show ¬ (c : Int) < 128 by clear e1 e2 e3 e4 e5; omega), if_neg h]
    have h8 : i ≠ 9 := fun h' => by have := h9 h'; clear e1 e2 e3 e4 e5; omega
    have e6 : IntKind.u64.wrap (((128 ^ i : Nat) : Int) * 128) = ((128 ^ (i + 1) : Nat) : Int) := by
      have hp : 128 ^ (i + 1) ≤ 9223372036854775808 := by rw [← pow9]; exact Nat.pow_le_pow_right (by decide) (by clear e1 e2 e3 e4 e5; omega)
      have he : ((128 ^ i : Nat) : Int) * 128 = ((128 ^ (i + 1) : Nat) : Int) := by rw [pow_step]; exact (Int.natCast_mul _ 128).symm
      rw [he]
      exact u64_id (Int.natCast_nonneg _) (by clear e1 e2 e3 e4 e5 he; omega)
    rw [e6]
theorem ref_take_l (b : List Int) (hb : ∀ x ∈ b, 0 ≤ x ∧ x < 256) : ∀ (d k i z : Nat), d + i = 10 → 2 * d + 1 < k → z < 128 ^ i →
    hallmarkref03_Take.l0 k b (z : Int) ((128 ^ i : Nat) : Int) (i : Int) = some (refR (tkP b d i z)) ∨ d = 0 := by
  intro d
  induction d with
  | zero => intro k i z _ _ _; exact .inr rfl
  | succ d ih =>
    intro k i z hd hk hz
    left
    obtain ⟨k, rfl⟩ : ∃ m, k = m + 1 + 1 := ⟨k - 2, by omega⟩
    have g9 : i ≤ 9 := by omega
    rw [tkP]
    by_cases hl : i < b.length
    · have er : rd b (i : Int) = b[i] := by unfold rd; simp [hl]
      have hr := hb _ (List.getElem_mem hl)
      obtain ⟨c, ec⟩ : ∃ c : Nat, b[i] = (c : Int) := ⟨b[i].toNat, by omega⟩
      have hc : c < 256 := by omega
      have l1 : (i : Int) < (b.length : Int) := by omega
      have l2 : (0 : Int) ≤ (i : Int) := Int.natCast_nonneg i
      have fin : ∀ (h9 : i = 9 → c ≤ 1), hallmarkref03_Take.j1 (k + 1) b (z : Int) ((128 ^ i : Nat) : Int) (i : Int) (c : Int) false =
          some (refR (if c < 128 then (unzz (z + c % 128 * 128 ^ i), i + 1, 0) else tkP b d (i + 1) (z + c % 128 * 128 ^ i))) := by
        intro h9
        rw [ref_take_j b k i z c g9 hz h9 hc]
        by_cases h : c < 128
        · rw [if_pos h, if_pos h]
        · rw [if_neg h, if_neg h]
          have hz' : z + c % 128 * 128 ^ i < 128 ^ (i + 1) := by
            have hm : c % 128 * 128 ^ i ≤ 127 * 128 ^ i := Nat.mul_le_mul_right _ (by omega)
            rw [pow_step]; omega
          rcases ih k (i + 1) _ (by omega) (by omega) hz' with g | g
          · exact g
          · exfalso
            have : i = 9 := by omega
            have := h9 this
            omega
      have stop : hallmarkref03_Take.j1 (k + 1) b (z : Int) ((128 ^ i : Nat) : Int) (i : Int) (c : Int) true = some (refR (0, 0, 4)) := by
        simp only [hallmarkref03_Take.j1]
        rw [if_pos trivial]; rfl
      have bq : ∀ y : Bool, ((((c : Int) == 0)) = y) → (if c = 0 then true else false) = y := by
        intro y hy
        rw [← hy]
        by_cases h : c = 0
        · rw [if_pos h, h]; rfl
        · rw [if_neg h]; exact (beq_eq_false_iff_ne.mpr (by omega)).symm
      have bz : (((c : Int) == 0)) = (if c = 0 then true else false) := (bq _ rfl).symm
      simp only [hallmarkref03_Take.l0]
      rw [if_pos l1, if_pos l2, er, ec, if_pos hl, Int.toNat_natCast, bz]
      by_cases h9 : i = 9
      · rw [if_pos (by omega)]
        by_cases hc1 : c > 1
        · rw [if_pos (by omega), if_pos (.inl ⟨h9, hc1⟩), stop]
        · rw [if_neg (by omega), if_pos (by omega)]
          by_cases hc0 : c = 0
          · rw [if_pos hc0, if_pos (.inr ⟨by omega, hc0⟩), stop]
          · rw [if_neg hc0, if_neg (by omega)]
            exact fin (fun _ => by omega)
      · rw [if_neg (by omega)]
        by_cases hi0 : 0 < i
        · rw [if_pos (by omega)]
          by_cases hc0 : c = 0
          · rw [if_pos hc0, if_pos (.inr ⟨hi0, hc0⟩), stop]
          · rw [if_neg hc0, if_neg (by omega)]
            exact fin (fun h => absurd h h9)
        · rw [if_neg (by omega), if_neg (by omega)]
          exact fin (fun h => absurd h h9)
    · simp only [hallmarkref03_Take.l0]
      rw [if_neg (by omega), if_neg hl]; rfl
theorem ref_take_is (k : Nat) (hk : 30 ≤ k) (b : List Int) (hb : ∀ x ∈ b, 0 ≤ x ∧ x < 256) : hallmarkref03_Take.f k b = some (refR (takeP b)) := by
  unfold hallmarkref03_Take.f takeP
  rcases ref_take_l b hb 10 k 0 0 rfl (by omega) (by decide) with g | g
  · exact g
  · cases g

theorem main (k : Nat) (hk : 30 ≤ k) (l : List Int) (hl : l.length < 140737488355328) (hb : ∀ x ∈ l, 0 ≤ x ∧ x < 256) : hallmarklaw03_WireTakes.f (k + 1) l = some true := by
  unfold hallmarklaw03_WireTakes.f
  rw [own_is l hl, Option.bind_some, Take_is _ (by omega) l hb, Option.bind_some, ref_take_is _ (by omega) l hb, Option.bind_some]
  show (if (takeP l).1 = (takeP l).1 then hallmarklaw03_WireTakes.j0 (k + 1) l (takeP l).1 (if (takeP l).2.2 = 0 then l.drop (takeP l).2.1 else []) (takeP l).2.2 ((takeP l).2.1 : Int) ((takeP l).2.2 != (takeP l).2.2) else _) = some true
  rw [if_pos rfl, bne_self_eq_false]
  simp only [hallmarklaw03_WireTakes.j0]
  rw [if_neg (by decide)]
  by_cases h : (takeP l).2.2 = 0
  · obtain ⟨t1, t2, t3, t4, t5⟩ := take_told l hb (takeP l).1 (takeP l).2.1 (by rw [← h])
    have f1 : (0 : Int) ≤ ((takeP l).2.1 : Int) := Int.natCast_nonneg _
    have f2 : ((takeP l).2.1 : Int) ≤ (l.length : Int) := by omega
    have f3 : l.take (takeP l).2.1 = enc (takeP l).1 := by
      have e : (enc (takeP l).1 ++ l.drop (takeP l).2.1).take (takeP l).2.1 = enc (takeP l).1 := by
        generalize l.drop (takeP l).2.1 = r
        rw [t2]
        exact List.take_left
      rw [← t1] at e
      exact e
    rw [if_pos h, if_pos f1, if_pos f2, if_pos h, Int.toNat_natCast, if_pos rfl, Put_is _ (by omega) [] _ (by simp) t4 t5, Option.bind_some, List.nil_append, f3, if_pos rfl, lives_is k hk, Option.bind_some]
  · rw [if_neg h, if_neg h, if_pos (show (((([] : List Int)).length : Int) = 0) from rfl), lives_is k hk, Option.bind_some]

theorem WireTakes : hallmarklaw03_WireTakes.Pure := by
  intro l _ hl hb
  exact ⟨30 + 1, main 30 (Nat.le_refl _) l (by omega) (bytes_of l hb)⟩
end Go.Proofs.Ytblahbenbknbmaa.Pure
