/- How far each block is from the first one: the search by a queue and the rounds of the document come to the same, for all functions. -/
import Derived.Test.YtfkicdelkjjliaaBaseCfgDeep
set_option linter.unusedVariables false
namespace Go.Proofs.Ytfkicdelkjjliaa.Pure
open Go Go.RowKit Go.Proofs.YtfkicdelkjjliaaW.PrintWords Go.Proofs.YtfkicdelkjjliaaW.PrintLast Go.Proofs.YtfkicdelkjjliaaW.PrintMore Go.Proofs.Ytfkicdelkjjliaa.PCfgDeep Go.Proofs.Ytfkicdelkjjliaa.BaseCfgDeep

/-- reached in at most r steps -/
def RL (N : Nat) (nb : Nat → List Int) : Nat → Nat → Prop
  | 0, n => n = 0
  | r + 1, n => RL N nb r n ∨ ∃ i, RL N nb r i ∧ i < N ∧ (n : Int) ∈ nb i ∧ n < N
/-- reached in d steps, and not in fewer -/
def Ex (N : Nat) (nb : Nat → List Int) (d n : Nat) : Prop := RL N nb d n ∧ ∀ r, r < d → ¬ RL N nb r n
theorem RL_le {N : Nat} {nb : Nat → List Int} {r s n : Nat} (h : RL N nb r n) (hs : r ≤ s) : RL N nb s n := by
  induction s with
  | zero => have : r = 0 := by omega
            subst this; exact h
  | succ s ih =>
    rcases Nat.lt_or_ge s r with hlt | hge
    · have : r = s + 1 := by omega
      subst this; exact h
    · exact .inl (ih hge)
theorem Ex_one {N : Nat} {nb : Nat → List Int} {d e n : Nat} (h : Ex N nb d n) (k : Ex N nb e n) : d = e := by
  rcases Nat.lt_trichotomy d e with hl | he | hl
  · exact absurd h.1 (k.2 d hl)
  · exact he
  · exact absurd k.1 (h.2 e hl)
theorem RL_ex {N : Nat} {nb : Nat → List Int} {n : Nat} : ∀ r, RL N nb r n → ∃ d, d ≤ r ∧ Ex N nb d n
  | 0, h => ⟨0, Nat.le_refl _, h, fun r hr => by omega⟩
  | r + 1, h => by
    by_cases h1 : RL N nb r n
    · obtain ⟨d, hd, he⟩ := RL_ex r h1
      exact ⟨d, by omega, he⟩
    · exact ⟨r + 1, Nat.le_refl _, h, fun s hs hr => h1 (RL_le hr (by omega))⟩
/-- what a list tells of block n -/
def At (N : Nat) (nb : Nat → List Int) (out : List Int) (n : Nat) (R : Nat) : Prop := (∃ d : Nat, d ≤ R ∧ out.getD n 0 = (d : Int) ∧ Ex N nb d n) ∨ (out.getD n 0 = -1 ∧ ¬ RL N nb R n)
theorem getD_set (l : List Int) (i n : Nat) (v : Int) (hi : i < l.length) : (l.set i v).getD n 0 = if n = i then v else l.getD n 0 := by
  by_cases h : n = i
  · subst h; rw [if_pos rfl, List.getD_eq_getElem?_getD, List.getElem?_set_self hi]; rfl
  · rw [if_neg h, List.getD_eq_getElem?_getD, List.getElem?_set_ne (fun e => h e.symm), ← List.getD_eq_getElem?_getD]

/-! ### The document's rounds -/
theorem ref_l0 (a0 : Int) (fb : List S34) (hN : fb.length ≤ 100) : ∀ (d i : Nat) (x : List Int), d + i = fb.length → x.length = i → (∀ n, n < i → x.getD n 0 = if n = 0 then 0 else -1) →
    ∀ r, (∀ y : List Int, y.length = fb.length → (∀ n, n < fb.length → y.getD n 0 = if n = 0 then 0 else -1) → EvP (fun k => hallmarkref07_Deep.l1 k y 0 a0 fb) r) → EvP (fun k => hallmarkref07_Deep.l0 k x (i : Int) a0 fb) r := by
  intro d
  induction d with
  | zero =>
    intro i x hd hx hv r hr
    refine evp_step (f := fun k => hallmarkref07_Deep.l1 k x 0 a0 fb) (fun k => ?_) (hr x (by omega) (fun n hn => hv n (by omega)))
    show hallmarkref07_Deep.l0 (k + 1) x (i : Int) a0 fb = _
    rw [hallmarkref07_Deep.l0, if_neg (by omega)]
  | succ d ih =>
    intro i x hd hx hv r hr
    have h1 : (i : Int) < (fb.length : Int) := by omega
    have h2 : x.length < 17592186044416 := by omega
    by_cases h0 : i = 0
    · subst h0
      refine evp_step (f := fun k => hallmarkref07_Deep.l0 k (x ++ [0]) ((0 + 1 : Nat) : Int) a0 fb) (fun k => ?_) (ih 1 (x ++ [0]) (by omega) (by simp [hx]) ?_ r hr)
      · show hallmarkref07_Deep.l0 (k + 1) x ((0 : Nat) : Int) a0 fb = _
        rw [hallmarkref07_Deep.l0, if_pos h1, if_pos (show ((0 : Nat) : Int) = 0 from rfl), if_pos h2, w_nat 0 (by omega)]
      · intro n hn
        have : n = 0 := by omega
        subst this
        have : x = [] := List.length_eq_zero_iff.1 hx
        subst this; rfl
    · refine evp_step (f := fun k => hallmarkref07_Deep.l0 k (x ++ [-1]) ((i + 1 : Nat) : Int) a0 fb) (fun k => ?_) (ih (i + 1) (x ++ [-1]) (by omega) (by simp [hx]) ?_ r hr)
      · show hallmarkref07_Deep.l0 (k + 1) x (i : Int) a0 fb = _
        rw [hallmarkref07_Deep.l0, if_pos h1, if_neg (by omega), if_pos h2, w_nat i (by omega)]
      · intro n hn
        rw [List.getD_eq_getElem?_getD]
        by_cases hn2 : n < i
        · rw [List.getElem?_append_left (by omega), ← List.getD_eq_getElem?_getD]; exact hv n hn2
        · have : n = i := by omega
          subst this
          rw [List.getElem?_append_right (by omega), hx, if_neg h0]; simp
/-- within a round r: blocks below i, and of block i those that follow at places below j, are done -/
def InR (N : Nat) (nb : Nat → List Int) (r i j : Nat) (x : List Int) : Prop :=
  x.length = N ∧ ∀ n, n < N → (∃ d : Nat, d ≤ r ∧ x.getD n 0 = (d : Int) ∧ Ex N nb d n) ∨ (x.getD n 0 = ((r + 1 : Nat) : Int) ∧ Ex N nb (r + 1) n) ∨
    (x.getD n 0 = -1 ∧ ¬ RL N nb r n ∧ (∀ i', i' < i → Ex N nb r i' → (n : Int) ∉ nb i') ∧ (Ex N nb r i → ∀ t, t < j → (nb i).getD t (-1) ≠ (n : Int)))
theorem inR_val {N : Nat} {nb : Nat → List Int} {r i j n : Nat} {x : List Int} (h : InR N nb r i j x) (hn : n < N) : (x.getD n 0 = (r : Int) ↔ Ex N nb r n) ∧ (x.getD n 0 < 0 ↔ x.getD n 0 = -1) := by
  rcases h.2 n hn with ⟨d, hd, hv, he⟩ | ⟨hv, he⟩ | ⟨hv, hn1, _⟩
  · constructor
    · rw [hv]; exact ⟨fun h => by have : d = r := by omega
                                  exact this ▸ he, fun h => by rw [Ex_one he h]⟩
    · omega
  · constructor
    · rw [hv]; exact ⟨fun h => by omega, fun h => by have := Ex_one he h; omega⟩
    · omega
  · constructor
    · rw [hv]; exact ⟨fun h => by omega, fun h => absurd h.1 hn1⟩
    · omega
theorem inR_next {N : Nat} {nb : Nat → List Int} {r i j : Nat} {x : List Int} (h : InR N nb r i j x) (hx : ¬ Ex N nb r i ∨ (nb i).length ≤ j) : InR N nb r (i + 1) 0 x := by
  refine ⟨h.1, fun n hn => ?_⟩
  rcases h.2 n hn with h1 | h1 | ⟨h1, h2, h3, h4⟩
  · exact .inl h1
  · exact .inr (.inl h1)
  · refine .inr (.inr ⟨h1, h2, fun i' hi' he hm => ?_, fun _ t ht => by omega⟩)
    rcases Nat.lt_or_ge i' i with hlt | hge
    · exact h3 i' hlt he hm
    · have : i' = i := by omega
      subst this
      rcases hx with hx | hx
      · exact hx he
      · obtain ⟨t, ht, e⟩ := List.getElem_of_mem hm
        refine h4 he t (by omega) ?_
        rw [List.getD_eq_getElem?_getD, List.getElem?_eq_getElem ht]; exact e
theorem inR_skip {N : Nat} {nb : Nat → List Int} {r i j : Nat} {x : List Int} (h : InR N nb r i j x) (hv : ∀ n, n < N → (nb i).getD j (-1) = (n : Int) → x.getD n 0 ≠ -1) : InR N nb r i (j + 1) x := by
  refine ⟨h.1, fun n hn => ?_⟩
  rcases h.2 n hn with h1 | h1 | ⟨h1, h2, h3, h4⟩
  · exact .inl h1
  · exact .inr (.inl h1)
  · refine .inr (.inr ⟨h1, h2, h3, fun he t ht hm => ?_⟩)
    rcases Nat.lt_or_ge t j with hlt | hge
    · exact h4 he t hlt hm
    · have : t = j := by omega
      subst this
      exact hv n hn hm h1
theorem inR_set {N : Nat} {nb : Nat → List Int} {r i j m : Nat} {x : List Int} (h : InR N nb r i j x) (hi : i < N) (he : Ex N nb r i) (hj : j < (nb i).length) (hm : (nb i).getD j (-1) = (m : Int)) (hmN : m < N) (hx : x.getD m 0 = -1) : InR N nb r i (j + 1) (x.set m ((r + 1 : Nat) : Int)) := by
  have hml : m < x.length := by rw [h.1]; exact hmN
  refine ⟨by rw [List.length_set]; exact h.1, fun n hn => ?_⟩
  rw [getD_set x m n _ hml]
  by_cases hnm : n = m
  · subst hnm
    rw [if_pos rfl]
    refine .inr (.inl ⟨rfl, .inr ⟨i, he.1, hi, ?_, hn⟩, fun s hs hr => ?_⟩)
    · rw [List.getD_eq_getElem?_getD, List.getElem?_eq_getElem hj] at hm
      have hm' : (nb i)[j] = (n : Int) := hm
      rw [← hm']; exact List.getElem_mem hj
    · rcases h.2 n hn with ⟨d, _, hv, _⟩ | ⟨hv, _⟩ | ⟨_, h2, _⟩
      · omega
      · omega
      · exact h2 (RL_le hr (by omega))
  · rw [if_neg hnm]
    rcases h.2 n hn with h1 | h1 | ⟨h1, h2, h3, h4⟩
    · exact .inl h1
    · exact .inr (.inl h1)
    · refine .inr (.inr ⟨h1, h2, h3, fun he' t ht hm' => ?_⟩)
      rcases Nat.lt_or_ge t j with hlt | hge
      · exact h4 he' t hlt hm'
      · have : t = j := by omega
        subst this
        rw [hm] at hm'
        omega
theorem inR_end {N : Nat} {nb : Nat → List Int} {r : Nat} {x : List Int} (h : InR N nb r N 0 x) : InR N nb (r + 1) 0 0 x := by
  refine ⟨h.1, fun n hn => ?_⟩
  rcases h.2 n hn with ⟨d, hd, hv, he⟩ | ⟨hv, he⟩ | ⟨h1, h2, h3, _⟩
  · exact .inl ⟨d, by omega, hv, he⟩
  · exact .inl ⟨r + 1, Nat.le_refl _, hv, he⟩
  · refine .inr (.inr ⟨h1, fun hr => ?_, fun _ h => absurd h (Nat.not_lt_zero _), fun _ t ht => absurd ht (Nat.not_lt_zero _)⟩)
    rcases hr with hr | ⟨i, hi, hiN, hm, _⟩
    · exact h2 hr
    · obtain ⟨d, hd, he⟩ := RL_ex r hi
      rcases Nat.lt_or_ge d r with hlt | hge
      · exact h2 (RL_le (r := d + 1) (.inr ⟨i, he.1, hiN, hm, hn⟩) (by omega))
      · have : d = r := by omega
        subst this
        exact h3 i hiN he hm
theorem ref_l3 (a0 : Int) (fb : List S34) (hN : fb.length ≤ 100) (r : Nat) (hr : r < fb.length) (i : Nat) (hi : i < fb.length) (R : List Int → Prop) (hR : ∀ x, InR fb.length (nbOf fb) r (i + 1) 0 x → EvP (fun k => hallmarkref07_Deep.l2 k x (r : Int) ((i + 1 : Nat) : Int) a0 fb) R) :
    ∀ (d j : Nat) (x : List Int), d + j = (nbOf fb i).length → InR fb.length (nbOf fb) r i j x → EvP (fun k => hallmarkref07_Deep.l3 k x (r : Int) (i : Int) (nbOf fb i) (j : Int) a0 fb) R := by
  have hl2 := nxS_len (rd_T34 fb (i : Int))
  intro d
  induction d with
  | zero =>
    intro j x hd h
    refine evp_step (f := fun k => hallmarkref07_Deep.j4 k x (r : Int) (i : Int) (nbOf fb i) (j : Int) false a0 fb) (fun k => ?_) ?_
    · show hallmarkref07_Deep.l3 (k + 1) x (r : Int) (i : Int) (nbOf fb i) (j : Int) a0 fb = _
      rw [hallmarkref07_Deep.l3, if_neg (by omega)]
    · refine evp_step (f := fun k => hallmarkref07_Deep.l2 k x (r : Int) ((i + 1 : Nat) : Int) a0 fb) (fun k => ?_) (hR x (inR_next h (.inr (by omega))))
      show hallmarkref07_Deep.j4 (k + 1) x (r : Int) (i : Int) (nbOf fb i) (j : Int) false a0 fb = _
      rw [hallmarkref07_Deep.j4, if_neg (by decide), w_nat i (by omega)]
  | succ d ih =>
    intro j x hd h
    have hjl : j < (nbOf fb i).length := by omega
    have hxi : i < x.length := by rw [h.1]; exact hi
    have g1 : (j : Int) < ((nbOf fb i).length : Int) := by omega
    have g2 : (0 : Int) ≤ (i : Int) := Int.natCast_nonneg _
    have g3 : (i : Int) < (x.length : Int) := by omega
    have g4 : (0 : Int) ≤ (j : Int) := Int.natCast_nonneg _
    have hlen : (nbOf fb i).length ≤ 2 := hl2
    have wj := w_nat j (by omega)
    have wi := w_nat i (by omega)
    have wr := w_nat r (by omega)
    refine evp_step (f := fun k => hallmarkref07_Deep.j4 k x (r : Int) (i : Int) (nbOf fb i) (j : Int) (x.getD i 0 == (r : Int)) a0 fb) (fun k => ?_) ?_
    · show hallmarkref07_Deep.l3 (k + 1) x (r : Int) (i : Int) (nbOf fb i) (j : Int) a0 fb = _
      rw [hallmarkref07_Deep.l3, if_pos g1, if_pos g2, if_pos g3, rd_getD]
    by_cases he : Ex fb.length (nbOf fb) r i
    · have hb : (x.getD i 0 == (r : Int)) = true := by rw [((inR_val h hi).1).2 he]; simp
      rw [hb]
      obtain ⟨v, hv⟩ : ∃ v, rd (nbOf fb i) (j : Int) = v := ⟨_, rfl⟩
      have hv' : (nbOf fb i).getD j (-1) = v := by
        rw [← hv, rd_nat _ _ hjl, List.getD_eq_getElem?_getD, List.getElem?_eq_getElem hjl]; rfl
      have skip : (∀ n, n < fb.length → v = (n : Int) → x.getD n 0 ≠ -1) → EvP (fun k => hallmarkref07_Deep.l3 k x (r : Int) (i : Int) (nbOf fb i) ((j + 1 : Nat) : Int) a0 fb) R := fun hs => ih (j + 1) x (by omega) (inR_skip h (fun n hn hvn => hs n hn (hv' ▸ hvn)))
      by_cases v0 : v ≥ 0
      · obtain ⟨m, rfl⟩ : ∃ m : Nat, v = m := ⟨v.toNat, by omega⟩
        by_cases v1 : (m : Int) < (x.length : Int)
        · have hmN : m < fb.length := by have := h.1; omega
          have hval := (inR_val h hmN).2
          by_cases v2 : x.getD m 0 < 0
          · refine evp_step (f := fun k => hallmarkref07_Deep.l3 k (x.set m ((r + 1 : Nat) : Int)) (r : Int) (i : Int) (nbOf fb i) ((j + 1 : Nat) : Int) a0 fb) (fun k => ?_) (ih (j + 1) _ (by omega) (inR_set h hi he hjl hv' hmN (hval.1 v2)))
            show hallmarkref07_Deep.j4 (k + 1) x (r : Int) (i : Int) (nbOf fb i) (j : Int) true a0 fb = _
            rw [hallmarkref07_Deep.j4, if_pos rfl, if_pos g4, if_pos g1, hv, if_pos v0, if_pos v1, if_pos (by omega), rd_getD, if_pos v2, wj, wr, Int.toNat_natCast]
          · refine evp_step (f := fun k => hallmarkref07_Deep.l3 k x (r : Int) (i : Int) (nbOf fb i) ((j + 1 : Nat) : Int) a0 fb) (fun k => ?_) (skip (fun n hn hvn e => by
              have : m = n := by omega
              rw [this] at v2; omega))
            show hallmarkref07_Deep.j4 (k + 1) x (r : Int) (i : Int) (nbOf fb i) (j : Int) true a0 fb = _
            rw [hallmarkref07_Deep.j4, if_pos rfl, if_pos g4, if_pos g1, hv, if_pos v0, if_pos v1, if_pos (by omega), rd_getD, if_neg v2, wj]
        · refine evp_step (f := fun k => hallmarkref07_Deep.l3 k x (r : Int) (i : Int) (nbOf fb i) ((j + 1 : Nat) : Int) a0 fb) (fun k => ?_) (skip (fun n hn hvn => by have := h.1; omega))
          show hallmarkref07_Deep.j4 (k + 1) x (r : Int) (i : Int) (nbOf fb i) (j : Int) true a0 fb = _
          rw [hallmarkref07_Deep.j4, if_pos rfl, if_pos g4, if_pos g1, hv, if_pos v0, if_neg v1, wj]
      · refine evp_step (f := fun k => hallmarkref07_Deep.l3 k x (r : Int) (i : Int) (nbOf fb i) ((j + 1 : Nat) : Int) a0 fb) (fun k => ?_) (skip (fun n hn hvn => by omega))
        show hallmarkref07_Deep.j4 (k + 1) x (r : Int) (i : Int) (nbOf fb i) (j : Int) true a0 fb = _
        rw [hallmarkref07_Deep.j4, if_pos rfl, if_pos g4, if_pos g1, hv, if_neg v0, wj]
    · have hb : (x.getD i 0 == (r : Int)) = false := by
        rw [beq_eq_false_iff_ne]
        exact fun h2 => he (((inR_val h hi).1).1 h2)
      rw [hb]
      refine evp_step (f := fun k => hallmarkref07_Deep.l2 k x (r : Int) ((i + 1 : Nat) : Int) a0 fb) (fun k => ?_) (hR x (inR_next h (.inl he)))
      show hallmarkref07_Deep.j4 (k + 1) x (r : Int) (i : Int) (nbOf fb i) (j : Int) false a0 fb = _
      rw [hallmarkref07_Deep.j4, if_neg (by decide), wi]
theorem ref_l2 (a0 : Int) (fb : List S34) (hN : fb.length ≤ 100) (r : Nat) (hr : r < fb.length) (R : List Int → Prop) (hR : ∀ x, InR fb.length (nbOf fb) (r + 1) 0 0 x → EvP (fun k => hallmarkref07_Deep.l1 k x ((r + 1 : Nat) : Int) a0 fb) R) :
    ∀ (d i : Nat) (x : List Int), d + i = fb.length → InR fb.length (nbOf fb) r i 0 x → EvP (fun k => hallmarkref07_Deep.l2 k x (r : Int) (i : Int) a0 fb) R := by
  intro d
  induction d with
  | zero =>
    intro i x hd h
    have hi : i = fb.length := by omega
    refine evp_step (f := fun k => hallmarkref07_Deep.l1 k x ((r + 1 : Nat) : Int) a0 fb) (fun k => ?_) (hR x (inR_end (hi ▸ h)))
    show hallmarkref07_Deep.l2 (k + 1) x (r : Int) (i : Int) a0 fb = _
    rw [hallmarkref07_Deep.l2, if_neg (by omega), w_nat r (by omega)]
  | succ d ih =>
    intro i x hd h
    refine evp_step (f := fun k => (hallmarkref07_Next.f k (rd_T34 fb (i : Int)).f0 (rd_T34 fb (i : Int)).f1 (rd_T34 fb (i : Int)).f2.f0 (rd_T34 fb (i : Int)).f2.f1 (rd_T34 fb (i : Int)).f2.f2 (rd_T34 fb (i : Int)).f2.f3 (rd_T34 fb (i : Int)).f2.f4 (rd_T34 fb (i : Int)).f2.f5).bind fun t => hallmarkref07_Deep.l3 k x (r : Int) (i : Int) t 0 a0 fb) (fun k => ?_)
      (evp_bind (next_ev _) (ref_l3 a0 fb hN r hr i (by omega) R (fun y hy => ih (i + 1) y (by omega) hy) (nbOf fb i).length 0 x (by omega) h))
    show hallmarkref07_Deep.l2 (k + 1) x (r : Int) (i : Int) a0 fb = _
    rw [hallmarkref07_Deep.l2, if_pos (by omega), if_pos (by omega)]
theorem ref_l1 (a0 : Int) (fb : List S34) (hN : fb.length ≤ 100) (R : List Int → Prop) (hR : ∀ x, InR fb.length (nbOf fb) fb.length 0 0 x → R x) :
    ∀ (d r : Nat) (x : List Int), d + r = fb.length → InR fb.length (nbOf fb) r 0 0 x → EvP (fun k => hallmarkref07_Deep.l1 k x (r : Int) a0 fb) R := by
  intro d
  induction d with
  | zero =>
    intro r x hd h
    have hr : r = fb.length := by omega
    refine evp_step (f := fun _ => some x) (fun k => ?_) (evp_now _ (hR x (hr ▸ h)))
    show hallmarkref07_Deep.l1 (k + 1) x (r : Int) a0 fb = _
    rw [hallmarkref07_Deep.l1, if_neg (by omega)]
  | succ d ih =>
    intro r x hd h
    have hr : r < fb.length := by omega
    refine evp_step (f := fun k => hallmarkref07_Deep.l2 k x (r : Int) ((0 : Nat) : Int) a0 fb) (fun k => ?_) (ref_l2 a0 fb hN r hr R (fun y hy => ih (r + 1) y (by omega) hy) fb.length 0 x (by omega) h)
    show hallmarkref07_Deep.l1 (k + 1) x (r : Int) a0 fb = _
    rw [hallmarkref07_Deep.l1, if_pos (by omega)]; rfl
theorem inR_start {N : Nat} {nb : Nat → List Int} {y : List Int} (hy : y.length = N) (hv : ∀ n, n < N → y.getD n 0 = if n = 0 then 0 else -1) : InR N nb 0 0 0 y := by
  refine ⟨hy, fun n hn => ?_⟩
  have := hv n hn
  by_cases h0 : n = 0
  · rw [if_pos h0] at this
    exact .inl ⟨0, Nat.le_refl _, this, h0, fun r hr => absurd hr (Nat.not_lt_zero _)⟩
  · rw [if_neg h0] at this
    exact .inr (.inr ⟨this, h0, fun _ h => absurd h (Nat.not_lt_zero _), fun _ t ht => absurd ht (Nat.not_lt_zero _)⟩)
theorem ref_is (a0 : Int) (fb : List S34) (hN : fb.length ≤ 100) : EvP (fun k => hallmarkref07_Deep.f k a0 fb) (fun x => InR fb.length (nbOf fb) fb.length 0 0 x) := by
  have h := ref_l0 a0 fb hN fb.length 0 [] (by omega) rfl (fun n hn => absurd hn (Nat.not_lt_zero _)) (fun x => InR fb.length (nbOf fb) fb.length 0 0 x)
    (fun y hy hv => ref_l1 a0 fb hN _ (fun x hx => hx) fb.length 0 y (by omega) (inR_start hy hv))
  exact h

/-! ### The search by a queue -/
def neg (x : List Int) : Nat := x.count (-1)
theorem neg_set : ∀ (l : List Int) (i : Nat) (v : Int), l.getD i 0 = -1 → i < l.length → v ≠ -1 → neg (l.set i v) + 1 = neg l
  | [], i, v, _, h, _ => absurd h (Nat.not_lt_zero _)
  | a :: r, 0, v, h, _, hv => by
    have h' : a = -1 := by simpa using h
    subst h'
    unfold neg
    rw [List.set_cons_zero, List.count_cons, List.count_cons]
    simp [hv]
  | a :: r, i + 1, v, h, hi, hv => by
    have := neg_set r i v (by simpa using h) (by simpa using hi) hv
    unfold neg at this ⊢
    rw [List.set_cons_succ, List.count_cons, List.count_cons]
    omega
/-- the queue's state: D: how far its first ones are -/
structure BF (N : Nat) (nb : Nat → List Int) (D : Nat) (x : List Int) (A B : List Nat) : Prop where
  len : x.length = N
  val : ∀ n, n < N → (∃ d : Nat, x.getD n 0 = (d : Int) ∧ Ex N nb d n ∧ d + 1 + neg x ≤ N) ∨ x.getD n 0 = -1
  a : ∀ n ∈ A, n < N ∧ x.getD n 0 = (D : Int)
  b : ∀ n ∈ B, n < N ∧ x.getD n 0 = ((D + 1 : Nat) : Int)
  low : ∀ n, n < N → RL N nb D n → x.getD n 0 ≠ -1
  room : (A ++ B).length + neg x ≤ N
/-- block i is done with: what follows it is told -/
def Done (N : Nat) (nb : Nat → List Int) (x : List Int) (i : Nat) : Prop := ∀ m, m < N → (m : Int) ∈ nb i → x.getD m 0 ≠ -1
def AllDone (N : Nat) (nb : Nat → List Int) (x : List Int) (q : List Nat) : Prop := ∀ n, n < N → x.getD n 0 ≠ -1 → n ∉ q → Done N nb x n
def Fin (N : Nat) (nb : Nat → List Int) (x : List Int) : Prop := x.length = N ∧ ∀ n, n < N → (∃ d : Nat, x.getD n 0 = (d : Int) ∧ Ex N nb d n ∧ d + 1 ≤ N) ∨ (x.getD n 0 = -1 ∧ ∀ r, ¬ RL N nb r n)
theorem bf_end {N : Nat} {nb : Nat → List Int} {D : Nat} {x : List Int} (h : BF N nb D x [] []) (hd : AllDone N nb x []) : Fin N nb x := by
  have all : ∀ r n, n < N → RL N nb r n → x.getD n 0 ≠ -1 := by
    intro r
    induction r with
    | zero => intro n hn hr; exact h.low n hn (RL_le hr (Nat.zero_le _))
    | succ r ih =>
      intro n hn hr
      rcases hr with hr | ⟨i, hi, hiN, hm, _⟩
      · exact ih n hn hr
      · exact hd i hiN (ih i hiN hi) (by simp) n hn hm
  refine ⟨h.len, fun n hn => ?_⟩
  rcases h.val n hn with ⟨d, hv, he, hl⟩ | hv
  · exact .inl ⟨d, hv, he, by omega⟩
  · exact .inr ⟨hv, fun r hr => all r n hn hr hv⟩
theorem bf_shift {N : Nat} {nb : Nat → List Int} {D : Nat} {x : List Int} {B : List Nat} (h : BF N nb D x [] B) (hd : AllDone N nb x B) : BF N nb (D + 1) x B [] := by
  refine ⟨h.len, h.val, h.b, by simp, fun n hn hr => ?_, by simpa using h.room⟩
  rcases hr with hr | ⟨i, hi, hiN, hm, _⟩
  · exact h.low n hn hr
  · have hx := h.low i hiN hi
    refine hd i hiN hx (fun hq => ?_) n hn hm
    have h2 := (h.b i hq).2
    rcases h.val i hiN with ⟨d, hv, he, _⟩ | hv
    · obtain ⟨e, hle, hee⟩ := RL_ex D hi
      have := Ex_one he hee
      omega
    · exact hx hv
theorem bf_pop {N : Nat} {nb : Nat → List Int} {D h : Nat} {x : List Int} {A B : List Nat} (k : BF N nb D x (h :: A) B) : BF N nb D x A B :=
  ⟨k.len, k.val, fun n hn => k.a n (List.mem_cons_of_mem _ hn), k.b, k.low, by have := k.room; simp at this ⊢; omega⟩
theorem bf_push {N : Nat} {nb : Nat → List Int} {D h m : Nat} {x : List Int} {A B : List Nat} (k : BF N nb D x (h :: A) B) (hm : (m : Int) ∈ nb h) (hmN : m < N) (hx : x.getD m 0 = -1) :
    BF N nb D (x.set m ((D + 1 : Nat) : Int)) (h :: A) (B ++ [m]) ∧ neg (x.set m ((D + 1 : Nat) : Int)) + 1 = neg x := by
  have hml : m < x.length := by rw [k.len]; exact hmN
  have hng := neg_set x m ((D + 1 : Nat) : Int) hx hml (by omega)
  obtain ⟨hhN, hhv⟩ := k.a h List.mem_cons_self
  have hex : Ex N nb D h := by
    rcases k.val h hhN with ⟨d, hv, he, _⟩ | hv
    · have : d = D := by omega
      exact this ▸ he
    · omega
  have hlow : D + 1 + neg x ≤ N := by
    rcases k.val h hhN with ⟨d, hv, _, hl⟩ | hv
    · have : d = D := by omega
      exact this ▸ hl
    · omega
  have hexm : Ex N nb (D + 1) m := ⟨.inr ⟨h, hex.1, hhN, hm, hmN⟩, fun r hr hrl => k.low m hmN (RL_le hrl (by omega)) hx⟩
  have g : ∀ n, n < N → (x.set m ((D + 1 : Nat) : Int)).getD n 0 = if n = m then ((D + 1 : Nat) : Int) else x.getD n 0 := fun n _ => getD_set x m n _ hml
  refine ⟨⟨by rw [List.length_set]; exact k.len, fun n hn => ?_, fun n hn => ?_, fun n hn => ?_, fun n hn hr => ?_, ?_⟩, hng⟩
  · rw [g n hn]
    by_cases e : n = m
    · subst e; rw [if_pos rfl]; exact .inl ⟨D + 1, rfl, hexm, by omega⟩
    · rw [if_neg e]
      rcases k.val n hn with ⟨d, hv, he, hl⟩ | hv
      · exact .inl ⟨d, hv, he, by omega⟩
      · exact .inr hv
  · obtain ⟨h1, h2⟩ := k.a n hn
    refine ⟨h1, ?_⟩
    rw [g n h1, if_neg (fun e => by rw [e, hx] at h2; omega)]
    exact h2
  · rcases List.mem_append.1 hn with hn | hn
    · obtain ⟨h1, h2⟩ := k.b n hn
      refine ⟨h1, ?_⟩
      rw [g n h1, if_neg (fun e => by rw [e, hx] at h2; omega)]
      exact h2
    · have e : n = m := by simpa using hn
      subst e
      exact ⟨hmN, by rw [g n hmN, if_pos rfl]⟩
  · rw [g n hn]
    by_cases e : n = m
    · rw [if_pos e]; omega
    · rw [if_neg e]; exact k.low n hn hr
  · have := k.room
    simp only [List.length_append, List.length_cons, List.length_nil] at this ⊢
    omega
theorem nat_ne (D : Nat) : ((D + 1 : Nat) : Int) ≠ -1 := by omega
theorem ne_set {x : List Int} {m n : Nat} {v : Int} (hl : m < x.length) (hv : v ≠ -1) (h : x.getD n 0 ≠ -1) : (x.set m v).getD n 0 ≠ -1 := by
  rw [getD_set x m n v hl]
  split
  · exact hv
  · exact h
theorem queue_l2 (a0 : Int) (fb : List S34) (hN : fb.length ≤ 100) (R : List Int → Prop) (M : Nat) (D h : Nat) (A : List Nat) (hR : ∀ x B, BF fb.length (nbOf fb) D x A B → AllDone fb.length (nbOf fb) x (A ++ B) → 2 * neg x + (A ++ B).length < M → EvP (fun k => cfg_Deep.l1 k x (ints (A ++ B)) a0 fb) R) :
    ∀ (d j : Nat) (x : List Int) (B : List Nat), d + j = (nbOf fb h).length → BF fb.length (nbOf fb) D x (h :: A) B → (∀ n, n < fb.length → x.getD n 0 ≠ -1 → n ∉ h :: A ++ B → Done fb.length (nbOf fb) x n) →
      (∀ t m, t < j → m < fb.length → (nbOf fb h).getD t (-1) = (m : Int) → x.getD m 0 ≠ -1) → 2 * neg x + (h :: A ++ B).length ≤ M →
      EvP (fun k => cfg_Deep.l2 k x (ints (h :: A ++ B)) (nbOf fb h) ((nbOf fb h).length : Int) (j : Int) a0 fb) R := by
  have hl2 : (nbOf fb h).length ≤ 2 := nxS_len (rd_T34 fb (h : Int))
  intro d
  induction d with
  | zero =>
    intro j x B hd k hdone hjs hM
    refine evp_step (f := fun k => cfg_Deep.l1 k x (ints (A ++ B)) a0 fb) (fun q => ?_) (hR x B (bf_pop k) ?_ ?_)
    · show cfg_Deep.l2 (q + 1) x (ints (h :: A ++ B)) (nbOf fb h) ((nbOf fb h).length : Int) (j : Int) a0 fb = _
      rw [cfg_Deep.l2, if_neg (by omega), if_pos (by rw [ints_length]; simp; omega)]
      rfl
    · intro n hn hx hq
      by_cases e : n = h
      · subst e
        intro m hm hmem
        obtain ⟨t, ht, e⟩ := List.getElem_of_mem hmem
        exact hjs t m (by omega) hm (by rw [List.getD_eq_getElem?_getD, List.getElem?_eq_getElem ht]; exact e)
      · exact hdone n hn hx (by simp only [List.cons_append, List.mem_cons]; exact fun hh => hh.elim e hq)
    · simp only [List.cons_append, List.length_cons] at hM; omega
  | succ d ih =>
    intro j x B hd k hdone hjs hM
    have hjl : j < (nbOf fb h).length := by omega
    have g1 : (j : Int) < ((nbOf fb h).length : Int) := by omega
    have g2 : (0 : Int) ≤ (j : Int) := Int.natCast_nonneg _
    have wj := w_nat j (by omega)
    obtain ⟨v, hv⟩ : ∃ v, rd (nbOf fb h) (j : Int) = v := ⟨_, rfl⟩
    have hv' : (nbOf fb h).getD j (-1) = v := by
      rw [← hv, rd_nat _ _ hjl, List.getD_eq_getElem?_getD, List.getElem?_eq_getElem hjl]; rfl
    have hvm : v ∈ nbOf fb h := by
      rw [← hv, rd_nat _ _ hjl]; exact List.getElem_mem hjl
    obtain ⟨hhN, hhv⟩ := k.a h List.mem_cons_self
    have hq0 : rd (ints (h :: A ++ B)) 0 = (h : Int) := rfl
    have hxh : rd x (h : Int) = (D : Int) := by rw [rd_getD]; exact hhv
    have skip : (∀ m, m < fb.length → v = (m : Int) → x.getD m 0 ≠ -1) → EvP (fun k => cfg_Deep.l2 k x (ints (h :: A ++ B)) (nbOf fb h) ((nbOf fb h).length : Int) ((j + 1 : Nat) : Int) a0 fb) R := fun hs =>
      ih (j + 1) x B (by omega) k hdone (fun t m ht hm he => by
        rcases Nat.lt_or_ge t j with hlt | hge
        · exact hjs t m hlt hm he
        · have : t = j := by omega
          subst this
          exact hs m hm (hv' ▸ he)) hM
    by_cases hth : 0 ≤ v ∧ v < (fb.length : Int)
    · obtain ⟨v0, v1⟩ := hth
      obtain ⟨m, rfl⟩ : ∃ m : Nat, v = m := ⟨v.toNat, by omega⟩
      have hmN : m < fb.length := by omega
      have ht : cfg_there.f a0 fb (m : Int) = some true := by unfold cfg_there.f; rw [if_pos v0, decide_eq_true v1]
      have v2 : (m : Int) < (x.length : Int) := by rw [k.len]; exact v1
      have hml : m < x.length := by omega
      by_cases hx : x.getD m 0 < 0
      · have hx1 : x.getD m 0 = -1 := by
          rcases k.val m hmN with ⟨d, hv, _, _⟩ | hv
          · omega
          · exact hv
        obtain ⟨k2, hng⟩ := bf_push k hvm hmN hx1
        have hroom := k.room
        have hr1 : (0 : Int) < ((ints (h :: A ++ B)).length : Int) := by rw [ints_length]; simp; omega
        have hr2 : (h : Int) < (x.length : Int) := by rw [k.len]; omega
        have hr3 : (ints (h :: A ++ B)).length < 17592186044416 := by rw [ints_length]; omega
        have e2 : wrap64 ((D : Int) + 1) = ((D + 1 : Nat) : Int) := by
          have : D + 1 + neg x ≤ fb.length := by
            rcases k.val h hhN with ⟨d, hv, _, hl⟩ | hv
            · have : d = D := by omega
              exact this ▸ hl
            · omega
          exact w_nat D (by omega)
        have hints : ints (h :: A ++ B) ++ [(m : Int)] = ints (h :: A ++ (B ++ [m])) := by
          rw [← ints_snoc, List.append_assoc]
        refine evp_step (f := fun k => cfg_Deep.l2 k (x.set m ((D + 1 : Nat) : Int)) (ints (h :: A ++ (B ++ [m]))) (nbOf fb h) ((nbOf fb h).length : Int) ((j + 1 : Nat) : Int) a0 fb) (fun q => ?_) (ih (j + 1) _ (B ++ [m]) (by omega) k2 ?_ ?_ ?_)
        · show cfg_Deep.l2 (q + 1) x (ints (h :: A ++ B)) (nbOf fb h) ((nbOf fb h).length : Int) (j : Int) a0 fb = _
          rw [cfg_Deep.l2, if_pos g1, if_pos g2, if_pos g1, hv, ht, Option.bind_some, if_pos rfl, if_pos v0, if_pos v2, rd_getD x m, if_pos hx, if_pos hr1, hq0, if_pos (Int.natCast_nonneg _), if_pos hr2, if_pos hr3, hxh, e2, Int.toNat_natCast, hints, wj]
        · intro n hn hxn hq
          have hnm : n ≠ m := fun e => hq (by simp [e])
          rw [getD_set x m n _ hml, if_neg hnm] at hxn
          have := hdone n hn hxn (fun hh => hq (by
            simp only [List.cons_append, List.mem_cons, List.mem_append] at hh ⊢
            rcases hh with hh | hh | hh
            · exact .inl hh
            · exact .inr (.inl hh)
            · exact .inr (.inr (.inl hh))))
          intro m' hm' hmem
          exact ne_set hml (nat_ne D) (this m' hm' hmem)
        · intro t m' ht' hm' he
          rcases Nat.lt_or_ge t j with hlt | hge
          · exact ne_set hml (nat_ne D) (hjs t m' hlt hm' he)
          · have : t = j := by omega
            subst this
            rw [hv'] at he
            have : m' = m := by omega
            subst this
            rw [getD_set x m' m' _ hml, if_pos rfl]; exact nat_ne D
        · simp only [List.cons_append, List.length_cons, List.length_append, List.length_nil] at hM ⊢
          omega
      · refine evp_step (f := fun k => cfg_Deep.l2 k x (ints (h :: A ++ B)) (nbOf fb h) ((nbOf fb h).length : Int) ((j + 1 : Nat) : Int) a0 fb) (fun q => ?_) (skip (fun n hn hvn e => by
          have : m = n := by omega
          rw [this] at hx; omega))
        show cfg_Deep.l2 (q + 1) x (ints (h :: A ++ B)) (nbOf fb h) ((nbOf fb h).length : Int) (j : Int) a0 fb = _
        rw [cfg_Deep.l2, if_pos g1, if_pos g2, if_pos g1, hv, ht, Option.bind_some, if_pos rfl, if_pos v0, if_pos v2, rd_getD x m, if_neg hx, wj]
    · have ht : cfg_there.f a0 fb v = some false := by
        unfold cfg_there.f
        by_cases v0 : v ≥ 0
        · rw [if_pos v0, decide_eq_false (by omega)]
        · rw [if_neg v0]
      refine evp_step (f := fun k => cfg_Deep.l2 k x (ints (h :: A ++ B)) (nbOf fb h) ((nbOf fb h).length : Int) ((j + 1 : Nat) : Int) a0 fb) (fun q => ?_) (skip (fun n hn hvn => by omega))
      show cfg_Deep.l2 (q + 1) x (ints (h :: A ++ B)) (nbOf fb h) ((nbOf fb h).length : Int) (j : Int) a0 fb = _
      rw [cfg_Deep.l2, if_pos g1, if_pos g2, if_pos g1, hv, ht, Option.bind_some, if_neg (by decide), wj]
theorem queue_l1 (a0 : Int) (fb : List S34) (hN : fb.length ≤ 100) (hN0 : 0 < fb.length) : ∀ (M D : Nat) (x : List Int) (A B : List Nat), BF fb.length (nbOf fb) D x A B → AllDone fb.length (nbOf fb) x (A ++ B) → 2 * neg x + (A ++ B).length < M →
    EvP (fun k => cfg_Deep.l1 k x (ints (A ++ B)) a0 fb) (Fin fb.length (nbOf fb)) := by
  intro M
  induction M with
  | zero => intro D x A B _ _ h; omega
  | succ M ih =>
    intro D x A B h hd hM
    have go : ∀ D A B, BF fb.length (nbOf fb) D x A B → AllDone fb.length (nbOf fb) x (A ++ B) → 2 * neg x + (A ++ B).length < M + 1 → A ≠ [] → EvP (fun k => cfg_Deep.l1 k x (ints (A ++ B)) a0 fb) (Fin fb.length (nbOf fb)) := by
      intro D A B h hd hM hA
      cases A with
      | nil => exact absurd rfl hA
      | cons a A =>
        obtain ⟨haN, hav⟩ := h.a a List.mem_cons_self
        have hr1 : ((ints (a :: A ++ B)).length : Int) > 0 := by rw [ints_length]; simp; omega
        have hq0 : rd (ints (a :: A ++ B)) 0 = (a : Int) := rfl
        refine evp_step (f := fun k => cfg_Deep.l2 k x (ints (a :: A ++ B)) (nbOf fb a) ((nbOf fb a).length : Int) ((0 : Nat) : Int) a0 fb) (fun q => ?_)
          (queue_l2 a0 fb hN _ M D a A (fun x' B' h1 h2 h3 => ih D x' A B' h1 h2 h3) (nbOf fb a).length 0 x B (by omega) h (fun n hn hx hq => hd n hn hx hq) (fun t m ht => absurd ht (Nat.not_lt_zero _)) (by omega))
        show cfg_Deep.l1 (q + 1) x (ints (a :: A ++ B)) a0 fb = _
        rw [cfg_Deep.l1, if_pos hr1, if_pos hr1, hq0, if_pos (Int.natCast_nonneg _), if_pos (by omega), cfg_next_is, Option.bind_some]
        rfl
    by_cases hA : A = []
    · subst hA
      by_cases hB : B = []
      · subst hB
        refine evp_step (f := fun _ => some x) (fun q => ?_) (evp_now _ (bf_end h hd))
        show cfg_Deep.l1 (q + 1) x (ints ([] ++ [])) a0 fb = _
        rw [cfg_Deep.l1, if_neg (by rw [ints_length]; simp)]
      · have hd' : AllDone fb.length (nbOf fb) x B := hd
        have h2 := bf_shift h hd'
        have := go (D + 1) B [] h2 (by rw [List.append_nil]; exact hd') (by rw [List.append_nil]; exact hM) hB
        rw [List.append_nil] at this
        exact this
    · exact go D A B h hd hM hA
theorem queue_l0 (a0 : Int) (fb : List S34) (hN : fb.length ≤ 100) (hN0 : 0 < fb.length) : ∀ (d i : Nat) (x : List Int), d + i = fb.length → x.length = fb.length → (∀ n, n < i → x.getD n 0 = -1) →
    EvP (fun k => cfg_Deep.l0 k x (fb.length : Int) (i : Int) a0 fb) (Fin fb.length (nbOf fb)) := by
  intro d
  induction d with
  | zero =>
    intro i x hd hx hv
    have hxl : (0 : Int) < (x.length : Int) := by omega
    refine evp_step (f := fun k => cfg_Deep.l1 k (x.set 0 0) (ints ([0] ++ [])) a0 fb) (fun q => ?_) (queue_l1 a0 fb hN hN0 (2 * neg (x.set 0 0) + 2) 0 (x.set 0 0) [0] [] ?_ ?_ (by simp))
    · show cfg_Deep.l0 (q + 1) x (fb.length : Int) (i : Int) a0 fb = _
      rw [cfg_Deep.l0, if_neg (by omega), if_neg (by omega), if_pos hxl]; rfl
    · have hg : ∀ n, (x.set 0 0).getD n 0 = if n = 0 then 0 else x.getD n 0 := fun n => getD_set x 0 n 0 (by omega)
      have hng := neg_set x 0 0 (hv 0 (by omega)) (by omega) (by decide)
      have hnx : neg x ≤ fb.length := by unfold neg; rw [← hx]; exact List.count_le_length
      refine ⟨by rw [List.length_set]; exact hx, fun n hn => ?_, fun n hn => ?_, by simp, fun n hn hr => ?_, ?_⟩
      · rw [hg n]
        by_cases e : n = 0
        · rw [if_pos e]; exact .inl ⟨0, rfl, ⟨e, fun r hr => absurd hr (Nat.not_lt_zero _)⟩, by omega⟩
        · rw [if_neg e]; exact .inr (hv n (by omega))
      · have e : n = 0 := by simpa using hn
        subst e
        exact ⟨hN0, by rw [hg 0, if_pos rfl]; rfl⟩
      · have e : n = 0 := hr
        rw [hg n, if_pos e]; decide
      · simp only [List.append_nil, List.length_singleton]; omega
    · intro n hn hx0 hq
      have hn0 : n ≠ 0 := fun e => hq (by simp [e])
      rw [getD_set x 0 n 0 (by omega), if_neg hn0] at hx0
      exact absurd (hv n (by omega)) hx0
  | succ d ih =>
    intro i x hd hx hv
    refine evp_step (f := fun k => cfg_Deep.l0 k (x.set i (-1)) (fb.length : Int) ((i + 1 : Nat) : Int) a0 fb) (fun q => ?_) (ih (i + 1) _ (by omega) (by rw [List.length_set]; exact hx) ?_)
    · show cfg_Deep.l0 (q + 1) x (fb.length : Int) (i : Int) a0 fb = _
      rw [cfg_Deep.l0, if_pos (by omega), if_pos (by omega), if_pos (by omega), Int.toNat_natCast, w_nat i (by omega)]
    · intro n hn
      rw [getD_set x i n _ (by omega)]
      split
      · rfl
      · exact hv n (by omega)
theorem queue_is (a0 : Int) (fb : List S34) (hN : fb.length ≤ 100) (hN0 : 0 < fb.length) : EvP (fun k => cfg_Deep.f k a0 fb) (Fin fb.length (nbOf fb)) := by
  obtain ⟨y, hy, he⟩ := queue_l0 a0 fb hN hN0 fb.length 0 (List.replicate fb.length 0) (by omega) (by simp) (fun n hn => absurd hn (Nat.not_lt_zero _))
  refine ⟨y, hy, Ev.congr (fun k => ?_) he⟩
  show cfg_Deep.f k a0 fb = _
  unfold cfg_Deep.f
  rw [if_pos (by omega), if_pos (by rw [Int.toNat_natCast]; omega), Option.bind_some, Int.toNat_natCast, List.length_replicate]; rfl
theorem fin_one {N : Nat} {nb : Nat → List Int} {x y : List Int} (hx : Fin N nb x) (hy : InR N nb N 0 0 y) : x = y := by
  apply List.ext_getElem
  · rw [hx.1, hy.1]
  · intro n h1 h2
    have hn : n < N := by rw [← hx.1]; exact h1
    have e1 : x.getD n 0 = x[n] := by rw [List.getD_eq_getElem?_getD, List.getElem?_eq_getElem h1]; rfl
    have e2 : y.getD n 0 = y[n] := by rw [List.getD_eq_getElem?_getD, List.getElem?_eq_getElem h2]; rfl
    rw [← e1, ← e2]
    rcases hx.2 n hn with ⟨d, hv, he, hd⟩ | ⟨hv, hr⟩
    · rcases hy.2 n hn with ⟨e, _, hw, hf⟩ | ⟨hw, hf⟩ | ⟨hw, hf, _⟩
      · rw [hv, hw, Ex_one he hf]
      · have := Ex_one he hf; omega
      · exact absurd (RL_le he.1 (by omega)) hf
    · rcases hy.2 n hn with ⟨e, _, hw, hf⟩ | ⟨hw, hf⟩ | ⟨hw, hf, _⟩
      · exact absurd hf.1 (hr _)
      · exact absurd hf.1 (hr _)
      · rw [hv, hw]
theorem deep_ev (a0 : Int) (fb : List S34) (hN : fb.length ≤ 100) : ∃ y : List Int, y.length = fb.length ∧ Ev (fun k => cfg_Deep.f k a0 fb) y ∧ Ev (fun k => hallmarkref07_Deep.f k a0 fb) y := by
  obtain ⟨z, hz, he2⟩ := ref_is a0 fb hN
  by_cases h0 : 0 < fb.length
  · obtain ⟨y, hy, he⟩ := queue_is a0 fb hN h0
    have := fin_one hy hz
    subst this
    exact ⟨y, hy.1, he, he2⟩
  · have hf : fb = [] := List.length_eq_zero_iff.1 (by omega)
    subst hf
    have hz0 : z = [] := List.length_eq_zero_iff.1 hz.1
    subst hz0
    exact ⟨[], rfl, Ev.of (fun k => cfg_Deep.mono _ _ k) (k := 3) (by rfl), he2⟩
theorem few_is (a0 : Int) (fb : List S34) : hallmarklaw07_few.f a0 fb = some (a0, fb.take 60) := by
  unfold hallmarklaw07_few.f
  by_cases h : (fb.length : Int) > 60
  · rw [if_pos h, if_pos (by omega)]
  · rw [if_neg h, List.take_of_length_le (by omega)]
theorem CfgDeep : hallmarklaw07_CfgDeep.Pure := by
  intro a0 fb _ _
  have hN : (fb.take 60).length ≤ 100 := by rw [List.length_take]; omega
  obtain ⟨y, hl, h1, h2⟩ := deep_ev a0 (fb.take 60) hN
  have key : Ev (fun k => hallmarklaw07_CfgDeep.f k a0 fb) true := by
    refine Ev.congr (f := fun k => (cfg_Deep.f k a0 (fb.take 60)).bind fun t220 => ((hallmarkref07_Deep.f k a0 (fb.take 60)).bind fun t223 => ((hallmarkref04_Ints.f k t220 t223).bind fun t226 => (if t226 = true then ((hallmarklaw07_lives.f k).bind fun t227 => (some t227)) else (some false))))) (fun k => ?_)
      (Ev.bind h1 (Ev.bind h2 (Ev.bind (ints_ev y (by omega)) ?_)))
    · show hallmarklaw07_CfgDeep.f k a0 fb = _
      unfold hallmarklaw07_CfgDeep.f
      rw [few_is, Option.bind_some]
    · exact Ev.congr (fun k => by rw [if_pos rfl]) (Ev.bind lives_ev (Ev.now true))
  exact key.rounds
end Go.Proofs.Ytfkicdelkjjliaa.Pure
