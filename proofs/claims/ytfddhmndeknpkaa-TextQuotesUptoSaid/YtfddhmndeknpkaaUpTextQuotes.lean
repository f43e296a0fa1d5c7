/- How a text is quoted, and that it comes back: proved for every text of at most 1,048,576 bytes. -/
import Derived.Test.YtfddhmndeknpkaaQuoTextQuotes
namespace Go.Proofs.Ytfddhmndeknpkaa.Pure
open Go Go.RowKit Go.Proofs.Ytfddhmndeknpkaa.PTextQuotes Go.Proofs.YtfddhmndeknpkaaW.PrintWords Go.Proofs.YtfddhmndeknpkaaW.PrintLast Go.Proofs.YtfddhmndeknpkaaW.PrintMore Go.Proofs.Ytfddhmndeknpkaa.QuoTextQuotes

theorem qb_shown (c : UInt8) : ∀ x ∈ qb c, 32 ≤ x.toNat ∧ x.toNat ≤ 126 := by
  have h : ∀ n : Fin 256, ∀ x ∈ qb (UInt8.ofNat n.val), 32 ≤ x.toNat ∧ x.toNat ≤ 126 := by decide +kernel
  have := h ⟨c.toNat, c.toNat_lt⟩
  simpa using this
theorem quote_shown (s : List UInt8) : ∀ x ∈ quote s, 32 ≤ x.toNat ∧ x.toNat ≤ 126 := by
  intro x hx
  simp only [quote, List.mem_cons, List.mem_append, List.not_mem_nil, or_false, qall, List.mem_flatMap] at hx
  rcases hx with rfl | ⟨c, _, hc⟩ | rfl
  · decide
  · exact qb_shown c x hc
  · decide
theorem shown_l (q : List UInt8) (hl : q.length ≤ 140737488351232) (hq : ∀ x ∈ q, 32 ≤ x.toNat ∧ x.toNat ≤ 126) : ∀ (d i k : Nat), d + i = q.length → d < k → hallmarklaw02_TextQuotes.l0 k (mk q) (i : Int) = some true
  | 0, i, k, hd, hk => by
    obtain ⟨k, rfl⟩ : ∃ m, k = m + 1 := ⟨k - 1, by omega⟩
    simp only [hallmarklaw02_TextQuotes.l0, size_mk]
    rw [if_neg (by omega)]
  | d + 1, i, k, hd, hk => by
    obtain ⟨k, rfl⟩ : ∃ m, k = m + 1 := ⟨k - 1, by omega⟩
    have hi : i < q.length := by omega
    have ew : wrap64 ((i : Int) + 1) = ((i + 1 : Nat) : Int) := by unfold wrap64; omega
    have hx := hq q[i] (List.getElem_mem hi)
    simp only [hallmarklaw02_TextQuotes.l0, size_mk]
    rw [if_pos (by omega), if_pos (by omega), bt_mk q i hi, if_neg (by omega), if_neg (by omega), ew]
    exact shown_l q hl hq d (i + 1) k (by omega) (by omega)
theorem upto (a0 : ByteArray) (w0 : a0.size ≤ 140737488351232) (hb : a0.size ≤ 1048576) : ∃ k, hallmarklaw02_TextQuotes.f k a0 = some true := by
  obtain ⟨s, rfl⟩ : ∃ s, a0 = mk s := ⟨_, mk_eq a0⟩
  rw [size_mk] at hb
  have hql := quote_len s
  refine ⟨3 * s.length + 20, ?_⟩
  generalize hk : 3 * s.length + 20 = k
  obtain ⟨k, rfl⟩ : ∃ m, k = m + 1 := ⟨k - 1, by omega⟩
  unfold hallmarklaw02_TextQuotes.f
  rw [prog_quote s (by omega)]
  simp only [Option.bind_some]
  rcases unq (quote s) (by omega) (k + 1) (by omega) with ⟨t, ht, hr⟩ | ⟨hn, _⟩
  · obtain rfl := quote_inj ht
    rw [hr]
    simp only [Option.bind_some]
    rw [ref_quote s (by omega) _ (by omega)]
    simp only [Option.bind_some, if_true, Bool.not_true, hallmarklaw02_TextQuotes.j0]
    rw [if_neg (by simp)]
    exact shown_l (quote s) (by omega) (quote_shown s) (quote s).length 0 k (by omega) (by omega)
  · exact absurd rfl (hn s)
end Go.Proofs.Ytfddhmndeknpkaa.Pure
