/- Numbers as bytes, with no program in sight: how a number is written, how it is read, and that both undo one another. -/
import Derived.Test.YtblahbenbknbmaaBaseWireLists
namespace Go.Proofs.Ytblahbenbknbmaa.NumWireLists
open Go.RowKit Go.Proofs.YtblahbenbknbmaaW.PrintWords Go.Proofs.YtblahbenbknbmaaW.PrintLast Go.Proofs.YtblahbenbknbmaaW.PrintMore Go.Proofs.Ytblahbenbknbmaa.BaseWireLists

/-- a number as a size: 0, -1, 1, -2, .. -/
def zz (n : Int) : Nat := if 0 ≤ n then (2 * n).toNat else (-2 * n - 1).toNat
def unzz (z : Nat) : Int := if z % 2 = 0 then ((z / 2 : Nat) : Int) else -1 - ((z / 2 : Nat) : Int)
theorem zz_lt {n : Int} (h0 : -9223372036854775808 ≤ n) (h1 : n < 9223372036854775808) : zz n < 18446744073709551616 := by unfold zz; split <;> omega
theorem unzz_zz (n : Int) : unzz (zz n) = n := by unfold unzz zz; split <;> split <;> omega
theorem zz_unzz (z : Nat) : zz (unzz z) = z := by unfold unzz zz; split <;> split <;> omega

/-- a size's bytes, seven bits each -/
def vb : Nat → Nat → List Int
  | 0, _ => []
  | d + 1, z => if z ≥ 128 then ((z % 128 + 128 : Nat) : Int) :: vb d (z / 128) else [(z : Int)]
def enc (n : Int) : List Int := vb 10 (zz n)
theorem vb_le : ∀ d z, (vb d z).length ≤ d
  | 0, _ => Nat.le_refl _
  | d + 1, z => by
    have := vb_le d (z / 128)
    unfold vb
    split
    · simp; omega
    · simp
theorem vb_pos (d z : Nat) : 1 ≤ (vb (d + 1) z).length := by
  unfold vb
  split <;> simp
theorem enc_le (n : Int) : (enc n).length ≤ 10 := vb_le 10 _
theorem enc_pos (n : Int) : 1 ≤ (enc n).length := vb_pos 9 _

/-- the number that bytes begin with: it, how many bytes it has, or why there is none -/
def tkP (b : List Int) : Nat → Nat → Nat → Int × Nat × Int
  | 0, _, _ => (0, 0, 4)
  | d + 1, i, z =>
    if i < b.length then
      (if (i = 9 ∧ (rd b (i : Int)).toNat > 1) ∨ (0 < i ∧ (rd b (i : Int)).toNat = 0) then (0, 0, 4)
       else if (rd b (i : Int)).toNat < 128 then (unzz (z + (rd b (i : Int)).toNat % 128 * 128 ^ i), i + 1, 0)
       else tkP b d (i + 1) (z + (rd b (i : Int)).toNat % 128 * 128 ^ i))
    else (0, 0, 3)
def takeP (b : List Int) : Int × Nat × Int := tkP b 10 0 0

theorem rd_mid (pre r : List Int) (c : Int) : rd (pre ++ c :: r) (pre.length : Int) = c := by
  unfold rd
  simp

theorem pow_step (i : Nat) : (128 : Nat) ^ (i + 1) = 128 ^ i * 128 := Nat.pow_succ ..
theorem split_low (z p a : Nat) : z + (a % 128) * p + (a / 128) * (p * 128) = z + a * p := by
  have h := Nat.div_add_mod a 128
  have e : (a / 128) * (p * 128) = (128 * (a / 128)) * p := by rw [Nat.mul_comm p 128, ← Nat.mul_assoc, Nat.mul_comm (a / 128) 128]
  rw [e, Nat.add_assoc, ← Nat.add_mul, Nat.add_comm (a % 128), h]
theorem pow9 : (128 : Nat) ^ 9 = 9223372036854775808 := by decide

theorem back (r : List Int) : ∀ (d i a z : Nat) (pre : List Int), pre.length = i → d + 1 + i = 10 → a < 128 ^ (d + 1) → (0 < i → a ≠ 0) → z + a * 128 ^ i < 18446744073709551616 →
    tkP (pre ++ vb (d + 1) a ++ r) (d + 1) i z = (unzz (z + a * 128 ^ i), i + (vb (d + 1) a).length, 0) := by
  intro d
  induction d with
  | zero =>
    intro i a z pre hp hd ha hz hlt
    have ha' : a < 128 := by simpa using ha
    obtain rfl : i = 9 := by omega
    have h1 : a ≤ 1 := by
      rw [pow9] at hlt
      omega
    have e : vb (0 + 1) a = [(a : Int)] := by unfold vb; rw [if_neg (by omega)]
    have er : rd (pre ++ [(a : Int)] ++ r) ((9 : Nat) : Int) = (a : Int) := by rw [← hp, List.append_assoc]; exact rd_mid pre r a
    rw [e]
    unfold tkP
    rw [er, Int.toNat_natCast, if_pos (by simp; omega), if_neg (by omega), if_pos ha', Nat.mod_eq_of_lt ha']
    rfl
  | succ d ih =>
    intro i a z pre hp hd ha hz hlt
    by_cases h : a ≥ 128
    · have e : vb (d + 1 + 1) a = ((a % 128 + 128 : Nat) : Int) :: vb (d + 1) (a / 128) := by rw [vb, if_pos h]
      have er : rd (pre ++ (((a % 128 + 128 : Nat) : Int) :: vb (d + 1) (a / 128)) ++ r) (i : Int) = ((a % 128 + 128 : Nat) : Int) := by rw [← hp, List.append_assoc]; exact rd_mid pre _ _
      have hi : i ≠ 9 := by omega
      rw [e, tkP, er, Int.toNat_natCast, if_pos (by simp; omega), if_neg (by omega), if_neg (by omega), Nat.add_mod_right, Nat.mod_mod]
      have hq : a / 128 < 128 ^ (d + 1) := by
        rw [Nat.pow_succ] at ha
        exact (Nat.div_lt_iff_lt_mul (by decide)).2 ha
      have hs := split_low z (128 ^ i) a
      have hih := ih (i + 1) (a / 128) (z + a % 128 * 128 ^ i) (pre ++ [((a % 128 + 128 : Nat) : Int)]) (by simp [hp]) (by omega) hq (fun _ => by omega) (by rw [pow_step, hs]; exact hlt)
      rw [pow_step, hs] at hih
      rw [show pre ++ ((a % 128 + 128 : Nat) : Int) :: vb (d + 1) (a / 128) ++ r = pre ++ [((a % 128 + 128 : Nat) : Int)] ++ vb (d + 1) (a / 128) ++ r from by simp, hih]
      simp only [List.length_cons, Prod.mk.injEq, true_and, and_true]; omega
    · have ha' : a < 128 := by omega
      have e : vb (d + 1 + 1) a = [(a : Int)] := by rw [vb, if_neg h]
      have er : rd (pre ++ [(a : Int)] ++ r) (i : Int) = (a : Int) := by rw [← hp, List.append_assoc]; exact rd_mid pre r a
      rw [e, tkP, er, Int.toNat_natCast, if_pos (by simp; omega), if_neg (by omega), if_pos ha', Nat.mod_eq_of_lt ha']
      rfl

theorem lt10 {z : Nat} (h : z < 18446744073709551616) : z < 128 ^ (9 + 1) := by
  have e : (128 : Nat) ^ (9 + 1) = 1180591620717411303424 := by decide
  rw [e]; omega

/-- a number's bytes are read as it, whatever is behind -/
theorem take_enc (n : Int) (r : List Int) (h0 : -9223372036854775808 ≤ n) (h1 : n < 9223372036854775808) : takeP (enc n ++ r) = (n, (enc n).length, 0) := by
  have hz := zz_lt h0 h1
  have h := back r 9 0 (zz n) 0 [] rfl (by omega) (lt10 hz) (fun h => absurd h (by omega)) (by simpa using hz)
  unfold takeP enc
  simpa [unzz_zz] using h

/-- what is read is what the number is written as -/
theorem forth (b : List Int) (hb : ∀ x ∈ b, 0 ≤ x ∧ x < 256) : ∀ (d i z : Nat) (n : Int) (k : Nat), d + 1 + i = 10 → z < 128 ^ i → tkP b (d + 1) i z = (n, k, 0) →
    ∃ a, b.drop i = vb (d + 1) a ++ b.drop k ∧ k = i + (vb (d + 1) a).length ∧ k ≤ b.length ∧ n = unzz (z + a * 128 ^ i) ∧ (0 < i → a ≠ 0) ∧ z + a * 128 ^ i < 18446744073709551616 := by
  intro d
  induction d with
  | zero =>
    intro i z n k hd hz h
    obtain rfl : i = 9 := by omega
    rw [tkP] at h
    by_cases hl : 9 < b.length
    · have er : rd b ((9 : Nat) : Int) = b[9] := by unfold rd; simp [hl]
      have hr := hb _ (List.getElem_mem hl)
      rw [if_pos hl, er] at h
      by_cases h1 : (9 = 9 ∧ b[9].toNat > 1) ∨ (0 < 9 ∧ b[9].toNat = 0)
      · rw [if_pos h1] at h
        simp at h
      · rw [if_neg h1] at h
        have hc : b[9].toNat < 128 := by omega
        rw [if_pos hc, Nat.mod_eq_of_lt hc] at h
        simp only [Prod.mk.injEq] at h
        obtain ⟨hn, hk, _⟩ := h
        subst hk
        refine ⟨b[9].toNat, ?_, ?_, by omega, hn.symm, fun _ => by omega, ?_⟩
        · rw [vb, if_neg (by omega), List.drop_eq_getElem_cons hl]
          have : ((b[9].toNat : Nat) : Int) = b[9] := by omega
          rw [this]; rfl
        · rw [vb, if_neg (by omega)]; rfl
        · rw [pow9] at hz ⊢
          omega
    · rw [if_neg hl] at h
      simp at h
  | succ d ih =>
    intro i z n k hd hz h
    rw [tkP] at h
    by_cases hl : i < b.length
    · have er : rd b (i : Int) = b[i] := by unfold rd; simp [hl]
      have hr := hb _ (List.getElem_mem hl)
      rw [if_pos hl, er] at h
      by_cases h1 : (i = 9 ∧ b[i].toNat > 1) ∨ (0 < i ∧ b[i].toNat = 0)
      · rw [if_pos h1] at h
        simp at h
      · rw [if_neg h1] at h
        have hp : 0 < 128 ^ i := Nat.pow_pos (by decide)
        by_cases hc : b[i].toNat < 128
        · rw [if_pos hc, Nat.mod_eq_of_lt hc] at h
          simp only [Prod.mk.injEq] at h
          obtain ⟨hn, hk, _⟩ := h
          subst hk
          refine ⟨b[i].toNat, ?_, ?_, by omega, hn.symm, fun _ => by omega, ?_⟩
          · rw [vb, if_neg (by omega), List.drop_eq_getElem_cons hl]
            have : ((b[i].toNat : Nat) : Int) = b[i] := by omega
            rw [this]; rfl
          · rw [vb, if_neg (by omega)]; rfl
          · have hle : 128 ^ (i + 1) ≤ 128 ^ 9 := Nat.pow_le_pow_right (by decide) (by omega)
            rw [pow9, pow_step] at hle
            have hm : b[i].toNat * 128 ^ i ≤ 127 * 128 ^ i := Nat.mul_le_mul_right _ (by omega)
            omega
        · rw [if_neg hc] at h
          have hz' : z + b[i].toNat % 128 * 128 ^ i < 128 ^ (i + 1) := by
            have hm : b[i].toNat % 128 * 128 ^ i ≤ 127 * 128 ^ i := Nat.mul_le_mul_right _ (by omega)
            rw [pow_step]
            omega
          obtain ⟨a, g1, g2, g3, g4, g5, g6⟩ := ih (i + 1) _ n k (by omega) hz' h
          have ha := g5 (by omega)
          have hs := split_low z (128 ^ i) (b[i].toNat % 128 + 128 * a)
          have e1 : (b[i].toNat % 128 + 128 * a) % 128 = b[i].toNat % 128 := by omega
          have e2 : (b[i].toNat % 128 + 128 * a) / 128 = a := by omega
          rw [e1, e2] at hs
          rw [pow_step, hs] at g4 g6
          have ev : vb (d + 1 + 1) (b[i].toNat % 128 + 128 * a) = b[i] :: vb (d + 1) a := by
            rw [vb, if_pos (by omega), e1, e2]
            have : ((b[i].toNat % 128 + 128 : Nat) : Int) = b[i] := by omega
            rw [this]
          refine ⟨b[i].toNat % 128 + 128 * a, ?_, ?_, g3, g4, fun _ => by omega, g6⟩
          · rw [ev, List.drop_eq_getElem_cons hl, g1]; rfl
          · rw [ev, List.length_cons]; omega
    · rw [if_neg hl] at h
      simp at h

theorem take_told (b : List Int) (hb : ∀ x ∈ b, 0 ≤ x ∧ x < 256) (n : Int) (k : Nat) (h : takeP b = (n, k, 0)) : b = enc n ++ b.drop k ∧ k = (enc n).length ∧ k ≤ b.length ∧ -9223372036854775808 ≤ n ∧ n < 9223372036854775808 := by
  obtain ⟨a, g1, g2, g3, g4, _, g6⟩ := forth b hb 9 0 0 n k (by omega) (by decide) h
  simp only [Nat.pow_zero, Nat.mul_one, Nat.zero_add] at g4 g6 g2
  have hz : zz n = a := by rw [g4, zz_unzz]
  have hr : -9223372036854775808 ≤ n ∧ n < 9223372036854775808 := by
    rw [g4]; unfold unzz; split <;> omega
  refine ⟨?_, ?_, g3, hr.1, hr.2⟩
  · unfold enc; rw [hz]; simpa using g1
  · unfold enc; rw [hz]; exact g2

/-- what is read: its error is one of three, and zero stands beside an error -/
theorem tkP_err (b : List Int) : ∀ (d i z : Nat), (tkP b d i z).2.2 = 0 ∨ tkP b d i z = (0, 0, 3) ∨ tkP b d i z = (0, 0, 4) := by
  intro d
  induction d with
  | zero => intro i z; exact .inr (.inr rfl)
  | succ d ih =>
    intro i z
    rw [tkP]
    split
    · split
      · exact .inr (.inr rfl)
      · split
        · exact .inl rfl
        · exact ih _ _
    · exact .inr (.inl rfl)
theorem take_err (b : List Int) : (takeP b).2.2 = 0 ∨ takeP b = (0, 0, 3) ∨ takeP b = (0, 0, 4) := tkP_err b 10 0 0

/-- bytes that end too early -/
theorem early : ∀ (d i a z j : Nat) (pre : List Int), pre.length = i → a * 128 ^ i < 18446744073709551616 → j < (vb d a).length → d + i = 10 → tkP (pre ++ (vb d a).take j) d i z = (0, 0, 3) := by
  intro d
  induction d with
  | zero => intro i a z j pre hp ha hj; simp [vb] at hj
  | succ d ih =>
    intro i a z j pre hp ha hj hd
    cases j with
    | zero =>
      rw [List.take_zero, List.append_nil, tkP, if_neg (by omega)]
    | succ j =>
      by_cases h : a ≥ 128
      · have e : vb (d + 1) a = ((a % 128 + 128 : Nat) : Int) :: vb d (a / 128) := by rw [vb, if_pos h]
        have hi : i ≠ 9 := by
          intro hi
          rw [hi, pow9] at ha
          omega
        rw [e] at hj ⊢
        rw [List.take_succ_cons]
        rw [List.length_cons] at hj
        have er : rd (pre ++ ((a % 128 + 128 : Nat) : Int) :: (vb d (a / 128)).take j) (i : Int) = ((a % 128 + 128 : Nat) : Int) := by rw [← hp]; exact rd_mid pre _ _
        have hs := split_low 0 (128 ^ i) a
        have hq : a / 128 * 128 ^ (i + 1) < 18446744073709551616 := by rw [pow_step]; omega
        rw [tkP, er, Int.toNat_natCast, if_pos (by simp; omega), if_neg (by omega), if_neg (by omega)]
        have hih := ih (i + 1) (a / 128) (z + (a % 128 + 128) % 128 * 128 ^ i) j (pre ++ [((a % 128 + 128 : Nat) : Int)]) (by simp [hp]) hq (by omega) (by omega)
        rw [List.append_assoc] at hih
        exact hih
      · have e : vb (d + 1) a = [(a : Int)] := by rw [vb, if_neg h]
        rw [e] at hj
        simp at hj
theorem take_early (n : Int) (j : Nat) (h0 : -9223372036854775808 ≤ n) (h1 : n < 9223372036854775808) (hj : j < (enc n).length) : takeP ((enc n).take j) = (0, 0, 3) :=
  early 10 0 (zz n) 0 j [] rfl (by have := zz_lt h0 h1; omega) hj rfl
/-- the bytes of a number are bytes -/
theorem vb_bytes : ∀ d z x, x ∈ vb d z → 0 ≤ x ∧ x < 256 := by
  intro d
  induction d with
  | zero => intro z x h; simp [vb] at h
  | succ d ih =>
    intro z x h
    rw [vb] at h
    split at h
    · cases List.mem_cons.1 h with
      | inl h => subst h; omega
      | inr h => exact ih _ _ h
    · have := List.mem_singleton.1 h; subst this; omega
end Go.Proofs.Ytblahbenbknbmaa.NumWireLists
