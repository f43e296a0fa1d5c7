/- Which text any text is a quote of, or that it is none: proved for every text of at most 1,048,576 bytes. -/
import Derived.Test.YtfddhmndeknpkaaQuoTextReads
namespace Go.Proofs.Ytfddhmndeknpkaa.Pure
open Go Go.RowKit Go.Proofs.Ytfddhmndeknpkaa.PTextReads Go.Proofs.YtfddhmndeknpkaaW.PrintWords Go.Proofs.YtfddhmndeknpkaaW.PrintLast Go.Proofs.YtfddhmndeknpkaaW.PrintMore Go.Proofs.Ytfddhmndeknpkaa.QuoTextReads

theorem val_hx : ∀ n : Fin 16, hallmarkref02_value.f 20 ((hx n.val).toNat : Int) = some (n.val : Int) := by decide +kernel
theorem val_any : ∀ n : Fin 256, (hallmarkref02_value.f 20 (n.val : Int)).isSome = true := by decide +kernel
theorem val_hx' (n : Nat) (h : n < 16) (k : Nat) (hk : 20 ≤ k) : hallmarkref02_value.f k ((hx n).toNat : Int) = some (n : Int) :=
  at_rounds (fun k => hallmarkref02_value.mono _ k) hk (val_hx ⟨n, h⟩)
theorem val_any' (c : UInt8) (k : Nat) (hk : 20 ≤ k) : ∃ v, hallmarkref02_value.f k (c.toNat : Int) = some v := by
  obtain ⟨v, hv⟩ := Option.isSome_iff_exists.1 (val_any ⟨c.toNat, c.toNat_lt⟩)
  exact ⟨v, at_rounds (fun k => hallmarkref02_value.mono _ k) hk hv⟩
theorem mix_fact : ∀ n : Fin 256, ((((n.val / 16 : Nat) : Int) * 16 % 256) + Int.tmod ((n.val % 16 : Nat) : Int) 16) % 256 = n.val := by decide +kernel
/-- what comes behind the reading: the check -/
def fin (L p : List UInt8) : Option (ByteArray × Bool) := some (if quote p = L then (mk p, true) else ((⟨#[]⟩ : ByteArray), false))
theorem mk_inj {l m : List UInt8} (h : mk l = mk m) : l = m := by rw [← toList_mk l, h, toList_mk]
theorem qall_cases (M : List UInt8) (t : List UInt8) (h : M = qall t) : (M = [] ∧ t = []) ∨ ∃ c t', t = c :: t' ∧ M = qb c ++ qall t' := by
  cases t with
  | nil => exact .inl ⟨h, rfl⟩
  | cons c t' => exact .inr ⟨c, t', rfl, by rw [h, qall_cons]⟩
theorem qb_cases (c : UInt8) : ((c = 34 ∨ c = 92) ∧ qb c = [92, c]) ∨ (¬ (c = 34 ∨ c = 92) ∧ qb c = [92, hx (c.toNat / 16), hx (c.toNat % 16)]) ∨ (¬ (c = 34 ∨ c = 92) ∧ qb c = [c]) := by
  unfold qb
  by_cases h1 : c = 34 ∨ c = 92
  · exact .inl ⟨h1, if_pos h1⟩
  · by_cases h2 : c < 32 ∨ 126 < c
    · exact .inr (.inl ⟨h1, by rw [if_neg h1, if_pos h2]⟩)
    · exact .inr (.inr ⟨h1, by rw [if_neg h1, if_neg h2]⟩)
theorem hx_ne (n : Nat) (h : n < 16) : ¬ (hx n = 34 ∨ hx n = 92) := by
  have := hx_fact ⟨n, h⟩
  simp only at this
  rintro (e | e)
  · exact this.2.1 (by rw [e]; rfl)
  · exact this.2.2 (by rw [e]; rfl)
set_option maxHeartbeats 1000000 in
theorem read_l (L : List UInt8) (hL : L.length ≤ 1048576) (z : UInt8) : ∀ (n : Nat) (pre M p : List UInt8) (k : Nat), L = pre ++ (M ++ [z]) → M.length ≤ n → 3 * n + 3 * L.length + 40 ≤ k → p.length ≤ pre.length →
    ∃ b : List UInt8, hallmarkref02_Unquote.l0 k (mk L) (num p) (pre.length : Int) = fin L (p ++ b) ∧ ∀ t, M = qall t → b = t := by
  intro n
  induction n with
  | zero =>
    intro pre M p k e hM hk hp
    obtain rfl : M = [] := List.length_eq_zero_iff.1 (by omega)
    refine ⟨[], ?_, fun t ht => ?_⟩
    · obtain ⟨k, rfl⟩ : ∃ m, k = m + 1 := ⟨k - 1, by omega⟩
      have hl : L.length = pre.length + 1 := by rw [e]; simp
      have e1 := Aside0.mk (show wrap64 ((L.length : Int) - 1) = (pre.length : Int) from by unfold wrap64; omega)
      simp only [hallmarkref02_Unquote.l0, size_mk, e1.out]
      rw [if_neg (by omega), str_num, ref_quote p (by omega) _ (by omega)]
      simp only [Option.bind_some, toList_mk, fin, List.append_nil]
      split <;> rfl
    · rcases qall_cases [] t ht with ⟨_, rfl⟩ | ⟨c, t', rfl, h⟩
      · rfl
      · exact absurd (List.append_eq_nil_iff.1 h.symm).1 (qb_ne c)
  | succ n ih =>
    intro pre M p k e hM hk hp
    cases M with
    | nil => exact (by
        obtain ⟨b, h1, h2⟩ := ih pre [] p k e (by simp) (by omega) hp
        exact ⟨b, h1, h2⟩)
    | cons c r =>
      obtain ⟨k, rfl⟩ : ∃ m, k = m + 1 := ⟨k - 1, by omega⟩
      have hl : L.length = pre.length + (r.length + 2) := by rw [e]; simp
      have e1 := Aside0.mk (show wrap64 ((L.length : Int) - 1) = ((pre.length + (r.length + 1) : Nat) : Int) from by unfold wrap64; omega)
      have w1 := Aside0.mk (show wrap64 ((pre.length : Int) + 1) = ((pre.length + 1 : Nat) : Int) from by unfold wrap64; omega)
      have w11 := Aside0.mk (show wrap64 (((pre.length + 1 : Nat) : Int) + 1) = ((pre.length + 2 : Nat) : Int) from by unfold wrap64; omega)
      have w2 := Aside0.mk (show wrap64 ((pre.length : Int) + 2) = ((pre.length + 2 : Nat) : Int) from by unfold wrap64; omega)
      have w21 := Aside0.mk (show wrap64 (((pre.length + 2 : Nat) : Int) + 1) = ((pre.length + 3 : Nat) : Int) from by unfold wrap64; omega)
      have b0 : bt (mk L) (pre.length : Int) = (c.toNat : Int) := by
        rw [bt_mk L pre.length (by omega)]; simp [e]
      have hpl : (num p).length < 140737488355328 := by rw [num_len]; omega
      -- one byte, taken as it stands
      have plain : ∀ m, 3 * n + 3 * L.length + 40 ≤ m → (∀ c' t', qb c' ++ qall t' = c :: r → qb c' = [c']) → ∃ b : List UInt8, hallmarkref02_Unquote.l0 m (mk L) (num (p ++ [c])) ((pre.length + 1 : Nat) : Int) = fin L (p ++ b) ∧ ∀ t, c :: r = qall t → b = t := by
        intro m hm hq
        obtain ⟨b, h1, h2⟩ := ih (pre ++ [c]) r (p ++ [c]) m (by rw [e]; simp) (by simpa using hM) hm (by simpa using hp)
        refine ⟨c :: b, ?_, fun t ht => ?_⟩
        · rw [List.length_append, List.length_singleton] at h1
          rw [h1]; simp
        · rcases qall_cases _ t ht with ⟨h, _⟩ | ⟨c', t', rfl, h⟩
          · cases h
          · have h3 := hq c' t' h.symm
            rw [h3] at h
            obtain ⟨rfl, h5⟩ := List.cons.inj h
            rw [h2 t' h5]
      -- what j2 does
      have hj2 : ∀ m, 3 * n + 3 * L.length + 41 ≤ m → (∀ c' t', qb c' ++ qall t' = c :: r → qb c' = [c']) → ∃ b : List UInt8, hallmarkref02_Unquote.j2 m (mk L) (num p) (pre.length : Int) (c.toNat : Int) false = fin L (p ++ b) ∧ ∀ t, c :: r = qall t → b = t := by
        intro m hm hq
        obtain ⟨m, rfl⟩ : ∃ m', m = m' + 1 := ⟨m - 1, by omega⟩
        obtain ⟨b, h1, h2⟩ := plain m (by omega) hq
        refine ⟨b, ?_, h2⟩
        simp only [hallmarkref02_Unquote.j2]
        rw [if_neg (by simp), if_pos hpl, w1.out, ← h1, num_app]; rfl
      have hc92 : (c.toNat : Int) = 92 ↔ c = 92 := ⟨fun h => UInt8.toNat_inj.1 (by simp; omega), fun h => by rw [h]; rfl⟩
      by_cases h92 : c = 92
      · subst h92
        -- what j1 does where it is no mark
        have hj1 : ∀ m, 3 * n + 3 * L.length + 42 ≤ m → (∀ a r', r = a :: r' → ¬ (a = 34 ∨ a = 92)) → ∃ b : List UInt8, hallmarkref02_Unquote.j1 m (mk L) (num p) (pre.length : Int) (92 : Int) false = fin L (p ++ b) ∧ ∀ t, 92 :: r = qall t → b = t := by
          intro m hm hn
          obtain ⟨m, rfl⟩ : ∃ m', m = m' + 1 := ⟨m - 1, by omega⟩
          simp only [hallmarkref02_Unquote.j1, size_mk, e1.out, w2.out]
          rw [if_neg (by simp), if_pos trivial]
          match r, hl, hM, e, e1, plain, hj2, hn with
          | a :: b :: r', hl, hM, e, e1, plain, hj2, hn =>
            have hd : decide (((pre.length + 2 : Nat) : Int) < ((pre.length + ((a :: b :: r').length + 1) : Nat) : Int)) = true := decide_eq_true (by simp only [List.length_cons]; omega)
            rw [hd]
            obtain ⟨m, rfl⟩ : ∃ m', m = m' + 1 := ⟨m - 1, by omega⟩
            simp only [List.length_cons] at hl hM
            have b1 : bt (mk L) ((pre.length + 1 : Nat) : Int) = (a.toNat : Int) := by rw [bt_mk L _ (by omega)]; simp [e]
            have b2 : bt (mk L) ((pre.length + 2 : Nat) : Int) = (b.toNat : Int) := by rw [bt_mk L _ (by omega)]; simp [e]
            obtain ⟨va, hva⟩ := val_any' a m (by omega)
            obtain ⟨vb, hvb⟩ := val_any' b m (by omega)
            simp only [hallmarkref02_Unquote.j2, size_mk, w1.out, w2.out]
            rw [if_pos trivial, if_pos (by omega), if_pos (by omega), b1, hva]
            simp only [Option.bind_some]
            rw [if_pos (by omega), if_pos (by omega), b2, hvb]
            simp only [Option.bind_some]
            rw [if_pos hpl, w21.out]
            obtain ⟨v, hv⟩ := mod_byte (((va * 16) % 256) + (Int.tmod vb 16))
            rw [hv]
            obtain ⟨q, h1, h2⟩ := ih (pre ++ [92, a, b]) r' (p ++ [v]) m (by rw [e]; simp) (by omega) (by omega) (by simp; omega)
            refine ⟨v :: q, ?_, fun t ht => ?_⟩
            · have e3 : num p ++ [(v.toNat : Int)] = num (p ++ [v]) := by rw [num_app]; rfl
              rw [List.length_append, List.length_cons, List.length_cons, List.length_cons, List.length_nil] at h1
              rw [e3, h1]; simp
            · rcases qall_cases _ t ht with ⟨h, _⟩ | ⟨c', t', rfl, h⟩
              · cases h
              · rcases qb_cases c' with ⟨g1, g2⟩ | ⟨g1, g2⟩ | ⟨g1, g2⟩
                · rw [g2] at h
                  simp only [List.cons_append, List.nil_append, List.cons.injEq, true_and] at h
                  exact absurd (h.1 ▸ g1) (hn a (b :: r') rfl)
                · rw [g2] at h
                  simp only [List.cons_append, List.nil_append, List.cons.injEq, true_and] at h
                  obtain ⟨ea, eb, er⟩ := h
                  have hc' := c'.toNat_lt
                  rw [ea, val_hx' _ (by omega) _ (by omega)] at hva
                  rw [eb, val_hx' _ (by omega) _ (by omega)] at hvb
                  obtain rfl := Option.some.inj hva
                  obtain rfl := Option.some.inj hvb
                  have hmx := mix_fact ⟨c'.toNat, hc'⟩
                  simp only at hmx
                  rw [hmx] at hv
                  obtain rfl : c' = v := UInt8.toNat_inj.1 (by omega)
                  rw [h2 t' er]
                · rw [g2] at h
                  simp only [List.cons_append, List.nil_append, List.cons.injEq] at h
                  exact absurd (.inr h.1.symm) g1
          | [], hl, hM, e, e1, plain, hj2, hn =>
            have hd : decide (((pre.length + 2 : Nat) : Int) < ((pre.length + (([] : List UInt8).length + 1) : Nat) : Int)) = false := decide_eq_false (by simp only [List.length_nil]; omega)
            rw [hd]
            refine hj2 m (by omega) fun c' t' h => ?_
            rcases qb_cases c' with ⟨g1, g2⟩ | ⟨g1, g2⟩ | ⟨g1, g2⟩
            · rw [g2] at h; simp at h
            · rw [g2] at h; simp at h
            · exact g2
          | [a], hl, hM, e, e1, plain, hj2, hn =>
            have hd : decide (((pre.length + 2 : Nat) : Int) < ((pre.length + ([a].length + 1) : Nat) : Int)) = false := decide_eq_false (by simp only [List.length_cons, List.length_nil]; omega)
            rw [hd]
            refine hj2 m (by omega) fun c' t' h => ?_
            rcases qb_cases c' with ⟨g1, g2⟩ | ⟨g1, g2⟩ | ⟨g1, g2⟩
            · rw [g2] at h
              simp only [List.cons_append, List.nil_append, List.cons.injEq, true_and] at h
              exact absurd (h.1 ▸ g1) (hn a [] rfl)
            · rw [g2] at h; simp at h
            · exact g2
        simp only [hallmarkref02_Unquote.l0, size_mk, e1.out, w1.out, b0]
        rw [if_pos (by omega), if_pos (by omega), if_pos (by omega), if_pos (by rfl)]
        match r, hl, hM, e, e1, hj1 with
        | [], hl, hM, e, e1, hj1 =>
          rw [if_neg (by simp only [List.length_nil]; omega)]
          exact hj1 k (by omega) (fun a r' h => by cases h)
        | a :: r', hl, hM, e, e1, hj1 =>
          simp only [List.length_cons] at hl hM
          have b1 : bt (mk L) ((pre.length + 1 : Nat) : Int) = (a.toNat : Int) := by rw [bt_mk L _ (by omega)]; simp [e]
          have mark : (a = 34 ∨ a = 92) → ∃ b : List UInt8, hallmarkref02_Unquote.j1 k (mk L) (num p) (pre.length : Int) (((92 : UInt8).toNat : Nat) : Int) true = fin L (p ++ b) ∧ ∀ t, 92 :: a :: r' = qall t → b = t := by
            intro ha
            obtain ⟨k, rfl⟩ : ∃ m, k = m + 1 := ⟨k - 1, by omega⟩
            simp only [hallmarkref02_Unquote.j1, size_mk, w1.out]
            rw [if_pos trivial, if_pos (by omega), if_pos (by omega), if_pos hpl, b1, w11.out]
            obtain ⟨q, h1, h2⟩ := ih (pre ++ [92, a]) r' (p ++ [a]) k (by rw [e]; simp) (by omega) (by omega) (by simp; omega)
            refine ⟨a :: q, ?_, fun t ht => ?_⟩
            · have e3 : num p ++ [(a.toNat : Int)] = num (p ++ [a]) := by rw [num_app]; rfl
              rw [List.length_append, List.length_cons, List.length_cons, List.length_nil] at h1
              rw [e3, h1]; simp
            · rcases qall_cases _ t ht with ⟨h, _⟩ | ⟨c', t', rfl, h⟩
              · cases h
              · rcases qb_cases c' with ⟨g1, g2⟩ | ⟨g1, g2⟩ | ⟨g1, g2⟩
                · rw [g2] at h
                  simp only [List.cons_append, List.nil_append, List.cons.injEq, true_and] at h
                  rw [h.1, h2 t' h.2]
                · rw [g2] at h
                  simp only [List.cons_append, List.nil_append, List.cons.injEq, true_and] at h
                  have hc' := c'.toNat_lt
                  exact absurd (h.1 ▸ ha) (hx_ne _ (by omega))
                · rw [g2] at h
                  simp only [List.cons_append, List.nil_append, List.cons.injEq] at h
                  exact absurd (.inr h.1.symm) g1
          rw [if_pos (by simp only [List.length_cons]; omega), if_pos (by omega), if_pos (by omega), b1]
          have ha34 : (a.toNat : Int) = 34 ↔ a = 34 := ⟨fun h => UInt8.toNat_inj.1 (by simp; omega), fun h => by rw [h]; rfl⟩
          have ha92 : ((a.toNat : Int) == 92) = decide (a = 92) := by
            rw [Bool.eq_iff_iff]; simp only [beq_iff_eq, decide_eq_true_eq]
            exact ⟨fun h => UInt8.toNat_inj.1 (by simp; omega), fun h => by rw [h]; rfl⟩
          by_cases g34 : a = 34
          · rw [if_pos (ha34.2 g34)]; exact mark (.inl g34)
          · rw [if_neg (fun h => g34 (ha34.1 h)), ha92]
            by_cases g92 : a = 92
            · rw [decide_eq_true g92]; exact mark (.inr g92)
            · rw [decide_eq_false g92]
              exact hj1 k (by omega) (fun a' r'' h => by obtain ⟨rfl, _⟩ := List.cons.inj h; exact fun h => h.elim g34 g92)
      · simp only [hallmarkref02_Unquote.l0, size_mk, e1.out, b0]
        rw [if_pos (by omega), if_pos (by omega), if_pos (by omega), if_neg (fun h => h92 (hc92.1 h))]
        obtain ⟨k, rfl⟩ : ∃ m, k = m + 1 := ⟨k - 1, by omega⟩
        simp only [hallmarkref02_Unquote.j1]
        rw [if_neg (by simp), if_neg (fun h => h92 (hc92.1 h))]
        refine hj2 k (by omega) fun c' t' h => ?_
        rcases qb_cases c' with ⟨g1, g2⟩ | ⟨g1, g2⟩ | ⟨g1, g2⟩
        · rw [g2] at h; exact absurd (List.cons.inj h).1.symm h92
        · rw [g2] at h; exact absurd (List.cons.inj h).1.symm h92
        · exact g2
/-- What the document's reader reads: the same. -/
theorem ref_unq (L : List UInt8) (hL : L.length ≤ 1048576) (k : Nat) (hk : 6 * L.length + 60 ≤ k) :
    (∀ t, L = quote t → hallmarkref02_Unquote.f k (mk L) = some (mk t, true)) ∧ ((∀ t, L ≠ quote t) → hallmarkref02_Unquote.f k (mk L) = some ((⟨#[]⟩ : ByteArray), false)) := by
  unfold hallmarkref02_Unquote.f
  have short : L.length ≤ 1 → hallmarkref02_Unquote.l0 k (mk L) [] 1 = fin L [] := by
    intro h
    obtain ⟨k, rfl⟩ : ∃ m, k = m + 1 := ⟨k - 1, by omega⟩
    have e1 : wrap64 ((L.length : Int) - 1) = (L.length : Int) - 1 := by unfold wrap64; omega
    simp only [hallmarkref02_Unquote.l0, size_mk, e1]
    rw [if_neg (by omega)]
    have := str_num []
    simp only [num, List.map_nil] at this
    rw [this, ref_quote [] (by simp) _ (by simp; omega)]
    simp only [Option.bind_some, toList_mk, fin]
    split <;> rfl
  have key : ∃ b, hallmarkref02_Unquote.l0 k (mk L) [] 1 = fin L b ∧ ∀ t, L = quote t → b = t := by
    cases L with
    | nil => exact ⟨[], short (by simp), fun t h => by cases h⟩
    | cons a l =>
      rcases List.eq_nil_or_concat l with rfl | ⟨M, z, rfl⟩
      · refine ⟨[], short (by simp), fun t h => ?_⟩
        have := congrArg List.length h
        simp [quote] at this
      · rw [List.concat_eq_append] at hL hk ⊢
        have hl : (a :: (M ++ [z])).length = M.length + 2 := by simp
        obtain ⟨b, h1, h2⟩ := read_l (a :: (M ++ [z])) hL z M.length [a] M [] k (by simp) (Nat.le_refl _) (by omega) (by simp)
        refine ⟨b, by simpa [num] using h1, fun t h => h2 t ?_⟩
        have h3 := (List.cons.inj h).2
        have h4 := congrArg List.dropLast h3
        simpa using h4
  obtain ⟨b, hb, ht⟩ := key
  refine ⟨fun t h => ?_, fun h => ?_⟩
  · rw [hb, ht t h, fin, if_pos h.symm]
  · rw [hb, fin, if_neg (fun e => h b e.symm)]
theorem upto (a0 : ByteArray) (w0 : a0.size ≤ 140737488351232) (hb : a0.size ≤ 1048576) : ∃ k, hallmarklaw02_TextReads.f k a0 = some true := by
  obtain ⟨L, rfl⟩ : ∃ s, a0 = mk s := ⟨_, mk_eq a0⟩
  rw [size_mk] at hb
  refine ⟨6 * L.length + 60, ?_⟩
  have hq : text_Quote.f (⟨#[10]⟩ : ByteArray) = some (mk [34, 92, 48, 97, 34]) := by
    have := prog_quote [10] (by simp)
    exact this
  have hr := ref_unq L hb (6 * L.length + 60) (by omega)
  unfold hallmarklaw02_TextReads.f
  rcases unq L (by omega) (6 * L.length + 60) (by omega) with ⟨t, ht, h⟩ | ⟨hn, h⟩
  · rw [h, hr.1 t ht]
    simp only [Option.bind_some, if_true, beq_self_eq_true]
    rw [hq]
    simp [toList_mk]
  · rw [h, hr.2 hn]
    simp only [Option.bind_some, if_true, beq_self_eq_true]
    rw [hq]
    simp [toList_mk]
end Go.Proofs.Ytfddhmndeknpkaa.Pure
