/- What comes when numbers are reckoned on and on, or where that ends: proved for all lists of signs and of words. -/
import Derived.Test.YtddkjckheacecaaCalcWordChains
namespace Go.Proofs.Ytddkjckheacecaa.Pure
open Go.RowKit Go.Proofs.YtddkjckheacecaaW.PrintWords Go.Proofs.YtddkjckheacecaaW.PrintLast Go.Proofs.YtddkjckheacecaaW.PrintMore Go.Proofs.Ytddkjckheacecaa.PWordChains Go.Proofs.Ytddkjckheacecaa.BaseWordChains Go.Proofs.Ytddkjckheacecaa.CalcWordChains

theorem is_is (k : Nat) (hk : 1 ≤ k) (s a b w : Int) (h : arithP s a b = (w, true)) : hallmarklaw01_is.f k s a b w = some true := by
  unfold hallmarklaw01_is.f
  rw [word_at k hk, Option.bind_some, h, if_pos rfl, beq_self_eq_true]

def InR (x : Int) : Prop := -9223372036854775808 ≤ x ∧ x < 9223372036854775808
theorem InR.wrap (x : Int) : InR (wrap64 x) := wrap_range x
theorem InR.truth (b : Bool) : InR (isTrue b) := by cases b <;> (unfold InR Go.Proofs.Ytddkjckheacecaa.CalcWordChains.isTrue; decide)
theorem InR.rest (a b : Int) (h : InR a) : InR (Int.tmod a b) := by
  unfold InR at h ⊢
  rw [tmod_signs]
  have := Nat.mod_le a.natAbs b.natAbs
  split <;> omega
theorem InR.down (a : Int) (n : Nat) (h : InR a) : InR (a / 2 ^ n) := by
  have hp : (0 : Int) < 2 ^ n := Int.pow_pos (by decide)
  have hge : (1 : Int) ≤ 2 ^ n := hp
  unfold InR at h ⊢
  constructor
  · refine (Int.le_ediv_iff_mul_le hp).2 ?_
    have := Int.mul_le_mul_of_nonneg_left (c := 9223372036854775808) hge (by decide)
    rw [Int.neg_mul]
    omega
  · refine Int.ediv_lt_of_lt_mul hp ?_
    have := Int.mul_le_mul_of_nonneg_left (c := 9223372036854775808) hge (by decide)
    omega
theorem InR.bits (op : BinOp) (h : op = .and ∨ op = .or ∨ op = .xor) (a b : Int) : InR (Go.bits op .i64 a b) := by
  obtain ⟨X, _, eX⟩ := u64_nat a
  obtain ⟨Y, _, eY⟩ := u64_nat b
  rcases h with rfl | rfl | rfl
  · rw [and_i64 a b X Y eX eY]; exact InR.wrap _
  · rw [or_i64 a b X Y eX eY]; exact InR.wrap _
  · rw [xor_i64 a b X Y eX eY]; exact InR.wrap _
theorem InR.zero : InR 0 := by unfold InR; decide
theorem ite_in {c : Prop} [Decidable c] {x y : Int × Bool} (h : InR x.1) (k : InR y.1) : InR (if c then x else y).1 := by
  split
  · exact h
  · exact k
theorem arith_range (s a b : Int) (ha : InR a) : InR (arithP s a b).1 := by
  unfold arithP
  refine ite_in (InR.wrap _) (ite_in (InR.wrap _) (ite_in (InR.wrap _) (ite_in (ite_in InR.zero (InR.wrap _)) (ite_in (ite_in InR.zero (InR.rest _ _ ha)) (ite_in (InR.bits _ (.inl rfl) _ _) (ite_in (InR.bits _ (.inr (.inl rfl)) _ _)
    (ite_in (InR.bits _ (.inr (.inr rfl)) _ _) (ite_in (InR.wrap _) (ite_in (InR.down _ _ ha) (ite_in (InR.truth _) (ite_in (InR.truth _) (ite_in (InR.truth _) (ite_in (InR.truth _) InR.zero)))))))))))))

/-- from the i-th sign on: what comes, and where it ends (-1: nowhere) -/
def chainP (signs t : List Int) : Nat → Nat → Int → Int × Int
  | 0, _, cur => (cur, -1)
  | d + 1, i, cur => if i < t.length ∧ i < signs.length then (if (arithP (rd signs i) cur (rd t i)).2 = true then chainP signs t d (i + 1) (arithP (rd signs i) cur (rd t i)).1 else (cur, (i : Int))) else (cur, -1)

theorem arith_at (k : Nat) (hk : 1 ≤ k) (s a b : Int) : word_arith.f k s a b = some (arithP s a b) := by
  have h := word_at k hk s a b
  unfold word_Arith.f at h
  cases hw : word_arith.f k s a b with
  | none => rw [hw] at h; cases h
  | some p => rw [hw] at h; exact h

theorem chain_l (signs t : List Int) (hl : t.length < 9223372036854775807) : ∀ (d k i : Nat) (cur : Int), t.length - i ≤ d → d + 1 < k →
    word_Chain.l0 k signs cur t (t.length : Int) (i : Int) = some (chainP signs t d i cur) := by
  intro d
  induction d with
  | zero =>
    intro k i cur hd hk
    obtain ⟨k, rfl⟩ : ∃ m, k = m + 1 := ⟨k - 1, by omega⟩
    simp only [word_Chain.l0]
    rw [if_neg (by omega)]; rfl
  | succ d ih =>
    intro k i cur hd hk
    obtain ⟨k, rfl⟩ : ∃ m, k = m + 1 := ⟨k - 1, by omega⟩
    have hih := fun c => ih k (i + 1) c (by omega) (by omega)
    have hk1 : 1 ≤ k := by omega
    by_cases h1 : i < t.length
    · by_cases h2 : i < signs.length
      · have e : wrap64 ((i : Int) + 1) = ((i + 1 : Nat) : Int) := by rw [wrap_id (by omega) (by omega)]; omega
        simp only [word_Chain.l0, chainP]
        rw [if_pos (by exact_mod_cast h1), if_pos (Int.natCast_nonneg i), if_pos (by exact_mod_cast h1), if_neg (by exact_mod_cast Nat.not_le.2 h2), if_pos (by exact_mod_cast h2), arith_at k hk1, Option.bind_some, if_pos (show i < t.length ∧ i < signs.length from ⟨h1, h2⟩), e, hih]
        split <;> rfl
      · simp only [word_Chain.l0, chainP]
        rw [if_pos (by omega), if_pos (by omega), if_pos (by omega), if_pos (by omega), if_neg (fun h => h2 h.2)]
    · simp only [word_Chain.l0, chainP]
      rw [if_neg (by omega), if_neg (fun h => h1 h.1)]

theorem rd_drop (l : List Int) (i : Nat) : rd (l.drop 1) (i : Int) = rd l ((i + 1 : Nat) : Int) := by
  unfold rd
  rw [Int.toNat_natCast, Int.toNat_natCast, List.getD_eq_getElem?_getD, List.getD_eq_getElem?_getD, List.getElem?_drop, Nat.add_comm]
theorem rd_range (l : List Int) (h : ∀ x ∈ l, (Lit.int .i64 x).wf = true) (i : Int) : InR (rd l i) := by
  unfold rd
  by_cases hi : i.toNat < l.length
  · rw [List.getD_eq_getElem?_getD, List.getElem?_eq_getElem hi, Option.getD_some]
    exact range (h _ (List.getElem_mem hi))
  · rw [List.getD_eq_getElem?_getD, List.getElem?_eq_none (by omega), Option.getD_none]; exact InR.zero

theorem three_is (k : Nat) (hk : 1 ≤ k) : hallmarklaw01_is.f k 0 1 2 3 = some true := is_is k hk 0 1 2 3 (by simp [arithP]; unfold wrap64; omega)
/-- the law's loop has ended: it holds what it has against what came -/
theorem law_end (k : Nat) (signs l : List Int) (x5 x6 want end_ i : Int) (h5 : x5 = want) (h6 : x6 = end_) (hk : 1 ≤ k) : hallmarklaw01_WordChains.j2 (k + 1) signs l x5 x6 want end_ i false = some true := by
  simp only [hallmarklaw01_WordChains.j2]
  rw [if_neg (by decide), if_pos h5, if_pos h6, three_is k hk]; rfl
theorem law_ended (k : Nat) (signs l : List Int) (x5 x6 want end_ i : Int) (h5 : x5 = want) (h6 : x6 = end_) (hk : 1 ≤ k) (he : 0 ≤ end_) : hallmarklaw01_WordChains.l0 (k + 1 + 1) signs l x5 x6 want end_ i = some true := by
  have h := law_end k signs l x5 x6 want end_ i h5 h6 hk
  simp only [hallmarklaw01_WordChains.l0]
  rw [decide_eq_false (Int.not_lt.2 he), h]
  split
  · split <;> rfl
  · rfl

theorem law_l (signs l : List Int) (hs : signs.length < 4611686018427387904) (hl : l.length < 4611686018427387904) (hw : ∀ x ∈ l, (Lit.int .i64 x).wf = true) : ∀ (d k i : Nat) (cur x5 x6 : Int), (l.drop 1).length - i ≤ d → 2 * d + 310 < k → InR cur →
    chainP signs (l.drop 1) d i cur = (x5, x6) → hallmarklaw01_WordChains.l0 k signs l x5 x6 cur (-1) ((i + 1 : Nat) : Int) = some true := by
  have hlen : (l.drop 1).length = l.length - 1 := List.length_drop
  intro d
  induction d with
  | zero =>
    intro k i cur x5 x6 hd hk hc h
    obtain ⟨k, rfl⟩ : ∃ m, k = m + 1 + 1 := ⟨k - 2, by omega⟩
    simp only [chainP, Prod.mk.injEq] at h
    have he := law_end k signs l x5 x6 cur (-1) ((i + 1 : Nat) : Int) h.1.symm h.2.symm (by omega)
    simp only [hallmarklaw01_WordChains.l0]
    rw [if_neg (by omega)]
    exact he
  | succ d ih =>
    intro k i cur x5 x6 hd hk hc h
    obtain ⟨k, rfl⟩ : ∃ m, k = m + 1 + 1 + 1 + 1 := ⟨k - 4, by omega⟩
    simp only [chainP] at h
    simp only [hallmarklaw01_WordChains.l0]
    by_cases h1 : i < (l.drop 1).length
    · have g1 : ((i + 1 : Nat) : Int) < (l.length : Int) := by omega
      rw [if_pos g1]
      by_cases h2 : i < signs.length
      · have g2 : ((i + 1 : Nat) : Int) ≤ (signs.length : Int) := by omega
        rw [if_pos g2, decide_eq_true (show (-1 : Int) < 0 by decide)]
        rw [if_pos ⟨h1, h2⟩, rd_drop] at h
        simp only [hallmarklaw01_WordChains.j2]
        have e1 : wrap64 (((i + 1 : Nat) : Int) - 1) = (i : Int) := by rw [wrap_id (by omega) (by omega)]; omega
        have e2 : wrap64 (((i + 1 : Nat) : Int) + 1) = ((i + 1 + 1 : Nat) : Int) := by rw [wrap_id (by omega) (by omega)]; omega
        have g3 : (i : Int) < (signs.length : Int) := by exact_mod_cast h2
        have hk3 : 300 ≤ k - 1 := by clear e1 e2; omega
        have hk4 : 2 * d + 310 < k + 1 + 1 := by clear e1 e2; omega
        have hd4 : (l.drop 1).length - (i + 1) ≤ d := by clear e1 e2; omega
        have hk5 : 1 ≤ k := by clear e1 e2; omega
        obtain ⟨k', hk'⟩ : ∃ k', k + 1 + 1 = k' + 1 + 1 + 1 := ⟨k - 1, by clear e1 e2; omega⟩
        have hk6 : 300 ≤ k' := by clear e1 e2; omega
        rw [if_pos trivial, e1, e2, if_pos (Int.natCast_nonneg i), if_pos g3, if_pos (Int.natCast_nonneg _), if_pos g1]
        have ea := ref_is k' (rd signs i) cur (rd l ((i + 1 : Nat) : Int)) hc (rd_range l hw _) hk6
        rw [← hk'] at ea
        rw [ea, Option.bind_some]
        by_cases hok : (arithP (rd signs i) cur (rd l ((i + 1 : Nat) : Int))).2 = true
        · rw [if_pos hok] at h ⊢
          exact ih (k + 1 + 1) (i + 1) _ x5 x6 hd4 hk4 (arith_range _ _ _ hc) h
        · rw [if_neg hok] at h ⊢
          simp only [Prod.mk.injEq] at h
          exact law_ended k signs l x5 x6 cur (i : Int) _ h.1.symm h.2.symm hk5 (Int.natCast_nonneg i)
      · rw [if_neg (by omega)]
        rw [if_neg (fun hh => h2 hh.2)] at h
        simp only [Prod.mk.injEq] at h
        exact law_end (k + 1 + 1) signs l x5 x6 cur (-1) _ h.1.symm h.2.symm (by omega)
    · rw [if_neg (by omega)]
      rw [if_neg (fun hh => h1 hh.1)] at h
      simp only [Prod.mk.injEq] at h
      exact law_end (k + 1 + 1) signs l x5 x6 cur (-1) _ h.1.symm h.2.symm (by omega)

theorem main (k : Nat) (signs l : List Int) (hs : signs.length * 8 ≤ 140737488351232) (hl : l.length * 8 ≤ 140737488351232) (hw : ∀ x ∈ l, (Lit.int .i64 x).wf = true) (hk : 2 * l.length + 400 < k) :
    hallmarklaw01_WordChains.f (k + 1) signs l = some true := by
  unfold hallmarklaw01_WordChains.f
  rw [Option.bind_some, if_pos (by simp; omega), Option.bind_some, if_pos (by simp; omega), List.nil_append, List.nil_append]
  unfold word_Chain.f
  by_cases h0 : l.length = 0
  · rw [if_pos (by omega), Option.bind_some, if_neg (by omega)]
    simp only [hallmarklaw01_WordChains.j0]
    obtain ⟨k, rfl⟩ : ∃ m, k = m + 1 + 1 := ⟨k - 2, by omega⟩
    have he := law_end k signs l 0 (-1) 0 (-1) 1 rfl rfl (by omega)
    simp only [hallmarklaw01_WordChains.l0]
    rw [if_neg (by omega)]; exact he
  · have hlen : (l.drop 1).length = l.length - 1 := List.length_drop
    have hch := chain_l signs (l.drop 1) (by omega) l.length (k + 1) 0 (rd l 0) (by omega) (by omega)
    rw [if_neg (by omega), if_pos (by omega), if_pos (by omega)]
    rw [show (0 : Int) = ((0 : Nat) : Int) from rfl] at *
    rw [hch, Option.bind_some, if_pos (by omega), if_pos (by omega)]
    simp only [hallmarklaw01_WordChains.j0]
    exact law_l signs l (by omega) (by omega) hw l.length k 0 _ _ _ (by omega) (by omega) (rd_range l hw _) rfl

theorem WordChains : hallmarklaw01_WordChains.Pure := fun s l _ hs _ _ hl hw => ⟨_, main (2 * l.length + 401) s l hs hl hw (Nat.lt_succ_self _)⟩
end Go.Proofs.Ytddkjckheacecaa.Pure
