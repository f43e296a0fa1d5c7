/- Which bytes a number is, and that it comes back, whatever is behind: proved for all numbers, and all bytes ahead and behind that the statement lets in. -/
import Derived.Test.YtblahbenbknbmaaCalcWirePuts
namespace Go.Proofs.Ytblahbenbknbmaa.Pure
open Go.RowKit Go.Proofs.YtblahbenbknbmaaW.PrintWords Go.Proofs.YtblahbenbknbmaaW.PrintLast Go.Proofs.YtblahbenbknbmaaW.PrintMore Go.Proofs.Ytblahbenbknbmaa.PWirePuts Go.Proofs.Ytblahbenbknbmaa.BaseWirePuts Go.Proofs.Ytblahbenbknbmaa.NumWirePuts Go.Proofs.Ytblahbenbknbmaa.CalcWirePuts

/-- what the reference writes -/
theorem ref_put_l : ∀ (d k z : Nat) (l : List Int), z < 128 ^ (d + 1) → z < 18446744073709551616 → d < k → l.length + d + 1 ≤ 140737488355328 → hallmarkref03_Put.l0 k l (z : Int) = some (l ++ vb (d + 1) z) := by
  intro d
  induction d with
  | zero =>
    intro k z l hz hz2 hk hl
    obtain ⟨k, rfl⟩ : ∃ m, k = m + 1 := ⟨k - 1, by omega⟩
    have hz' : z < 128 := by simpa using hz
    have e : ((z : Int) % 256) = (z : Int) := by omega
    simp only [hallmarkref03_Put.l0]
    rw [if_neg (by omega), if_pos (by omega), e, vb, if_neg (by omega)]
  | succ d ih =>
    intro k z l hz hz2 hk hl
    obtain ⟨k, rfl⟩ : ∃ m, k = m + 1 := ⟨k - 1, by omega⟩
    by_cases h : z ≥ 128
    · have hq : z / 128 < 128 ^ (d + 1) := by
        rw [Nat.pow_succ] at hz
        exact (Nat.div_lt_iff_lt_mul (by decide)).2 hz
      have hih := ih k (z / 128) (l ++ [((z % 128 + 128 : Nat) : Int)]) hq (by omega) (by omega) (by simp; omega)
      have g1 : (z : Int) > 127 := by omega
      have g2 : l.length < 140737488355328 := by omega
      have e1 : Int.tmod (z : Int) 128 = ((z % 128 : Nat) : Int) := (Int.ofNat_tmod z 128).symm
      have e2 : Int.tdiv (z : Int) 128 = ((z / 128 : Nat) : Int) := (Int.ofNat_tdiv z 128).symm
      have e3 : IntKind.u64.wrap (128 + ((z % 128 : Nat) : Int)) % 256 = ((z % 128 + 128 : Nat) : Int) := by
        rw [u64_id (by omega) (by omega)]; omega
      have e4 : IntKind.u64.wrap ((z / 128 : Nat) : Int) = ((z / 128 : Nat) : Int) := u64_id (by clear e3; omega) (by clear e3; omega)
      have ev : vb (d + 1 + 1) z = ((z % 128 + 128 : Nat) : Int) :: vb (d + 1) (z / 128) := by rw [vb, if_pos h]
      simp only [hallmarkref03_Put.l0]
      rw [if_pos g1, if_pos g2, e1, e2, e3, e4, hih, ev]
      simp
    · have e : ((z : Int) % 256) = (z : Int) := by omega
      simp only [hallmarkref03_Put.l0]
      rw [if_neg (by omega), if_pos (by omega), e, vb, if_neg h]
theorem ref_put_is (k : Nat) (hk : 10 ≤ k) (l : List Int) (n : Int) (hl : l.length + 10 ≤ 140737488355328) (h0 : -9223372036854775808 ≤ n) (h1 : n < 9223372036854775808) : hallmarkref03_Put.f (k + 1) l n = some (l ++ enc n) := by
  have hz := zz_lt h0 h1
  have hp := ref_put_l 9 k (zz n) l (lt10 hz) hz (by omega) (by omega)
  have gl : ([] : List Int).length + l.length < 140737488355328 := by simp; omega
  unfold hallmarkref03_Put.f
  rw [Option.bind_some, if_pos gl, Option.bind_some, List.nil_append]
  by_cases h : n < 0
  · have e1 : wrap64 ((-1) - n) = -1 - n := wrap_id (by omega) (by omega)
    have e2 : IntKind.u64.wrap (-1 - n) = -1 - n := u64_id (by clear e1; omega) (by clear e1; omega)
    have e3 : IntKind.u64.wrap (2 * (-1 - n)) = 2 * (-1 - n) := u64_id (by clear e1 e2; omega) (by clear e1 e2; omega)
    have e4 : IntKind.u64.wrap (2 * (-1 - n) + 1) = (zz n : Int) := by
      rw [u64_id (by clear e1 e2 e3; omega) (by clear e1 e2 e3; omega)]
      clear e1 e2 e3
      unfold zz; rw [if_neg (by omega)]; omega
    rw [if_pos h, e1, e2, e3, e4]
    simp only [hallmarkref03_Put.j0]
    exact hp
  · have e2 : IntKind.u64.wrap n = n := u64_id (by omega) (by omega)
    have e3 : IntKind.u64.wrap (2 * n) = (zz n : Int) := by
      rw [u64_id (by clear e2; omega) (by clear e2; omega)]
      clear e2
      unfold zz; rw [if_pos (by omega)]; omega
    rw [if_neg h, e2, e3]
    simp only [hallmarkref03_Put.j0]
    exact hp

theorem main (k : Nat) (hk : 30 ≤ k) (l l2 : List Int) (n : Int) (hl : l.length ≤ 140737488351232) (hl2 : l2.length ≤ 140737488351232) (hb2 : ∀ x ∈ l2, 0 ≤ x ∧ x < 256) (h0 : -9223372036854775808 ≤ n) (h1 : n < 9223372036854775808) :
    hallmarklaw03_WirePuts.f (k + 1) l n l2 = some true := by
  have he := enc_le n
  have g1 : l.length < 140737488355328 := by omega
  have g2 : l.length + 10 ≤ 140737488355328 := by omega
  have g3 : (0 : Int) ≤ (l.length : Int) := Int.natCast_nonneg _
  have g4 : (l.length : Int) ≤ ((l ++ enc n).length : Int) := by rw [List.length_append]; omega
  have g5 : (l ++ enc n).drop l.length = enc n := by simp
  have g6 : (enc n).length < 140737488355328 := by omega
  have g7 : (enc n).length + l2.length < 140737488355328 := by omega
  have g8 : (enc n ++ l2).drop (enc n).length = l2 := by simp
  have hb : ∀ x ∈ enc n ++ l2, 0 ≤ x ∧ x < 256 := fun x hx => by
    cases List.mem_append.1 hx with
    | inl h => exact enc_bytes n x h
    | inr h => exact hb2 x h
  have et : takeR (enc n ++ l2) (n, (enc n).length, 0) = (n, l2, 0) := by unfold takeR; rw [if_pos rfl]; simp
  unfold hallmarklaw03_WirePuts.f
  rw [own_is l g1, Option.bind_some, Put_is _ (by omega) l n g2 h0 h1, Option.bind_some, ref_put_is k (by omega) l n g2 h0 h1, Option.bind_some, if_pos rfl, if_pos g3, if_pos g4, Int.toNat_natCast, g5,
    own_is _ g6, Option.bind_some, if_pos g7, Take_is _ (by omega) _ hb, Option.bind_some, take_enc n l2 h0 h1, et, if_pos rfl, if_pos rfl, if_pos rfl, lives_is _ (by omega), Option.bind_some]

theorem WirePuts : hallmarklaw03_WirePuts.Pure := by
  intro l n l2 _ hl _ hn _ hl2 hb2
  have hr := range hn
  exact ⟨30 + 1, main 30 (Nat.le_refl _) l l2 n (by omega) (by omega) (bytes_of l2 hb2) hr.1 hr.2⟩
end Go.Proofs.Ytblahbenbknbmaa.Pure
