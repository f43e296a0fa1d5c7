/- A text is cut into parts of one length, and a last one, that are it together: proved for every text of at most 1,048,576 bytes and every length. -/
import Derived.Test.YtfddhmndeknpkaaPTextCutsx1
namespace Go.Proofs.Ytfddhmndeknpkaa.Pure
open Go.RowKit Go.Proofs.Ytfddhmndeknpkaa.PTextCuts Go.Proofs.YtfddhmndeknpkaaW.PrintWords Go.Proofs.YtfddhmndeknpkaaW.PrintLast Go.Proofs.YtfddhmndeknpkaaW.PrintMore

/-- the parts of 's' from 'a' on, each of n bytes but the last -/
def parts (s : ByteArray) (n : Nat) : Nat → Nat → List ByteArray
  | 0, _ => []
  | d + 1, a => if a < s.size then s.extract a (a + min n (s.size - a)) :: parts s n d (a + min n (s.size - a)) else []

theorem parts_length (s : ByteArray) (n : Nat) : ∀ d a, (parts s n d a).length ≤ d
  | 0, _ => by simp [parts]
  | d + 1, a => by
    unfold parts
    split
    · have := parts_length s n d (a + min n (s.size - a)); simp; omega
    · simp

theorem toList_nil {x : ByteArray} : x.toList = [] ↔ x.size = 0 := by
  rw [ByteArray.toList_eq, ← data_length]
  exact List.length_eq_zero_iff.symm

theorem mn_nat (n : Nat) (m : Nat) : mn (n : Int) (m : Int) = ((min n m : Nat) : Int) := by
  unfold mn; split <;> omega

theorem extract_tail (s : ByteArray) (a m : Nat) : (s.extract a s.size).extract m (s.extract a s.size).size = s.extract (a + m) s.size := by
  rw [ByteArray.extract_extract, ByteArray.size_extract]
  congr 1; omega

theorem extract_head (s : ByteArray) (a m : Nat) (h : a + m ≤ s.size) : (s.extract a s.size).extract 0 m = s.extract a (a + m) := by
  rw [ByteArray.extract_extract]
  congr 1; omega

theorem cut_tells (s : ByteArray) (n : Nat) (hn : 1 ≤ n) (hs : s.size ≤ 1048576) : ∀ (d k a : Nat) (acc : List ByteArray), a ≤ s.size → s.size - a ≤ d → d < k → acc.length + d ≤ 1048576 →
    text_Cut.l0 k (s.extract a s.size) (n : Int) acc = some (acc ++ parts s n d a) := by
  intro d
  induction d with
  | zero =>
    intro k a acc ha hd hk hl
    obtain ⟨k, rfl⟩ : ∃ m, k = m + 1 := ⟨k - 1, by omega⟩
    simp only [text_Cut.l0]
    rw [if_pos (toList_nil.2 (by rw [ByteArray.size_extract]; omega))]
    simp [parts]
  | succ d ih =>
    intro k a acc ha hd hk hl
    obtain ⟨k, rfl⟩ : ∃ m, k = m + 1 := ⟨k - 1, by omega⟩
    simp only [text_Cut.l0]
    by_cases h : a < s.size
    · have hsz : (s.extract a s.size).size = s.size - a := by rw [ByteArray.size_extract]; omega
      rw [if_neg (by rw [toList_nil]; omega)]
      have hm : mn (n : Int) ((s.extract a s.size).size : Int) = ((min n (s.size - a) : Nat) : Int) := by rw [hsz, mn_nat]
      rw [hm, if_pos (by omega), if_pos (by omega), if_pos (by omega)]
      have ht : (((min n (s.size - a) : Nat) : Int)).toNat = min n (s.size - a) := Int.toNat_natCast _
      rw [ht, extract_tail s a _, extract_head s a _ (by omega)]
      rw [ih k (a + min n (s.size - a)) (acc ++ [s.extract a (a + min n (s.size - a))]) (by omega) (by omega) (by omega) (by simp; omega)]
      rw [parts, if_pos h]
      simp
    · rw [if_pos (toList_nil.2 (by rw [ByteArray.size_extract]; omega))]
      rw [parts, if_neg h]
      simp

theorem rdOf_mid (pre rest : List ByteArray) (c : ByteArray) : rdOf ByteArray.empty (pre ++ c :: rest) (pre.length : Int) = c := by
  unfold rdOf
  simp

theorem wrap_id {x : Int} (h0 : 0 ≤ x) (h1 : x < 9223372036854775808) : wrap64 x = x := by unfold wrap64; omega

theorem law_step (k : Nat) (s : ByteArray) (n : Int) (l : List ByteArray) (a i : Int) (c : ByteArray) (hc : rdOf ByteArray.empty l i = c) (hi0 : 0 ≤ i) (hi : i < (l.length : Int))
    (hne : (c.size : Int) ≠ 0) (hle : (c.size : Int) ≤ n) (hlast : i + 1 < (l.length : Int) → (c.size : Int) = n) (ha : 0 ≤ a) (hb : a + (c.size : Int) ≤ (s.size : Int)) (hs : s.size ≤ 1048576) (hl : l.length ≤ 1048577)
    (he : (s.extract a.toNat (a + (c.size : Int)).toNat).toList = c.toList) :
    hallmarklaw02_TextCuts.l0 (k + 1) s n l a i = hallmarklaw02_TextCuts.l0 k s n l (a + (c.size : Int)) (i + 1) := by
  simp only [hallmarklaw02_TextCuts.l0]
  rw [hc, wrap_id (x := a + (c.size : Int)) (by omega) (by omega), wrap_id (x := i + 1) (by omega) (by omega)]
  generalize hallmarklaw02_TextCuts.l0 k s n l (a + (c.size : Int)) (i + 1) = r
  rw [if_pos hi, if_pos hi0, if_neg hne, if_neg (by omega)]
  by_cases hm : i + 1 < (l.length : Int)
  · rw [if_pos hm, if_pos (hlast hm), if_neg (by omega), if_pos ha, if_pos (by omega), if_pos hb, if_pos he]
  · rw [if_neg hm, if_neg (by omega), if_pos ha, if_pos (by omega), if_pos hb, if_pos he]

theorem law_end (k : Nat) (s : ByteArray) (n : Int) (l : List ByteArray) : hallmarklaw02_TextCuts.l0 (k + 1) s n l (s.size : Int) (l.length : Int) = some true := by
  simp only [hallmarklaw02_TextCuts.l0]
  rw [if_neg (by omega)]
  simp

theorem law_tells (s : ByteArray) (n : Nat) (hn : 1 ≤ n) (hs : s.size ≤ 1048576) : ∀ (d k a : Nat) (pre : List ByteArray), a ≤ s.size → s.size - a ≤ d → d < k → pre.length + d ≤ 1048576 →
    hallmarklaw02_TextCuts.l0 k s (n : Int) (pre ++ parts s n d a) (a : Int) (pre.length : Int) = some true := by
  intro d
  induction d with
  | zero =>
    intro k a pre ha hd hk hl
    obtain ⟨k, rfl⟩ : ∃ m, k = m + 1 := ⟨k - 1, by omega⟩
    obtain rfl : a = s.size := by omega
    rw [parts, List.append_nil]
    exact law_end k s n pre
  | succ d ih =>
    intro k a pre ha hd hk hl
    obtain ⟨k, rfl⟩ : ∃ m, k = m + 1 := ⟨k - 1, by omega⟩
    by_cases h : a < s.size
    · have hp : parts s n (d + 1) a = s.extract a (a + min n (s.size - a)) :: parts s n d (a + min n (s.size - a)) := by rw [parts, if_pos h]
      obtain ⟨m, hm⟩ : ∃ m, min n (s.size - a) = m := ⟨_, rfl⟩
      have hpl := parts_length s n d (a + m)
      have hsz : (s.extract a (a + m)).size = m := by rw [ByteArray.size_extract]; omega
      have hX := ih k (a + m) (pre ++ [s.extract a (a + m)]) (by omega) (by omega) (by omega) (by simp; omega)
      rw [hp, hm]
      rw [List.append_assoc] at hX
      rw [law_step k s n _ _ _ _ (rdOf_mid _ _ _) (by omega) (by simp; omega) (by omega) (by omega) ?_ (by omega) (by omega) hs (by simp; omega) ?_, hsz]
      · have e1 : ((a : Int) + (m : Int)) = ((a + m : Nat) : Int) := by omega
        have e2 : ((pre.length : Int) + 1) = (((pre ++ [s.extract a (a + m)]).length : Nat) : Int) := by simp
        rw [e1, e2]
        exact hX
      · intro hq
        rw [hsz]
        by_cases hl2 : n ≤ s.size - a
        · omega
        · have hnil : parts s n d (a + m) = [] := by
            cases d with
            | zero => rfl
            | succ d => rw [parts, if_neg (by omega)]
          rw [hnil] at hq
          simp at hq
      · rw [hsz]
        have e1 : ((a : Int) + (m : Int)).toNat = a + m := by omega
        rw [e1, Int.toNat_natCast]
    · rw [parts, if_neg h]
      obtain rfl : a = s.size := by omega
      rw [List.append_nil]
      exact law_end k s n pre

theorem TextCutsUpto (a0 : ByteArray) (a1 : Int) (h0 : a0.size ≤ 1048576) : ∃ k, hallmarklaw02_TextCuts.f k a0 a1 = some true := by
  refine ⟨a0.size + 2, ?_⟩
  obtain ⟨n, hn, hN⟩ : ∃ n : Nat, 1 ≤ n ∧ (if a1 < 1 then (1 : Int) else a1) = (n : Int) := by
    by_cases h : a1 < 1
    · exact ⟨1, by omega, by rw [if_pos h]; rfl⟩
    · exact ⟨a1.toNat, by omega, by rw [if_neg h]; omega⟩
  unfold hallmarklaw02_TextCuts.f text_Cut.f
  have hmx : mx a1 1 = (n : Int) := by unfold mx; exact hN
  have hall : a0.extract 0 a0.size = a0 := by simp
  have hc := cut_tells a0 n hn h0 a0.size (a0.size + 2) 0 [] (by omega) (by omega) (by omega) (by simp; omega)
  rw [hall] at hc
  rw [hmx, hc]
  simp only [Option.bind_some]
  have hl := law_tells a0 n hn h0 a0.size (a0.size + 1) 0 [] (by omega) (by omega) (by omega) (by simp; omega)
  have : (if a1 < 1 then hallmarklaw02_TextCuts.j0 (a0.size + 2) a0 1 ([] ++ parts a0 n a0.size 0) else hallmarklaw02_TextCuts.j0 (a0.size + 2) a0 a1 ([] ++ parts a0 n a0.size 0)) = hallmarklaw02_TextCuts.j0 (a0.size + 2) a0 (n : Int) ([] ++ parts a0 n a0.size 0) := by
    by_cases h : a1 < 1
    · rw [if_pos h] at hN ⊢; rw [← hN]
    · rw [if_neg h] at hN ⊢; rw [← hN]
  rw [this]
  simp only [hallmarklaw02_TextCuts.j0]
  exact hl

end Go.Proofs.Ytfddhmndeknpkaa.Pure
