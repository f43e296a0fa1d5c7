/- The order of the blocks: each block once, the first one first, each other one behind some that goes to it. -/
import Derived.Test.YtfkicdelkjjliaaVisCfgOnce
set_option linter.unusedVariables false
namespace Go.Proofs.Ytfkicdelkjjliaa.Pure
open Go Go.RowKit Go.Proofs.YtfkicdelkjjliaaW.PrintWords Go.Proofs.YtfkicdelkjjliaaW.PrintLast Go.Proofs.YtfkicdelkjjliaaW.PrintMore Go.Proofs.Ytfkicdelkjjliaa.PCfgOnce Go.Proofs.Ytfkicdelkjjliaa.BaseCfgOnce

theorem rd_ints (L : List Nat) (t : Nat) (h : t < L.length) : rd (ints L) (t : Int) = ((L[t] : Nat) : Int) := by
  rw [rd_nat _ t (by rw [ints_length]; exact h)]
  unfold ints
  rw [List.getElem_map]
theorem mem_ints {L : List Nat} {x : Nat} : (x : Int) ∈ ints L ↔ x ∈ L := by
  unfold ints
  rw [List.mem_map]
  refine ⟨fun ⟨y, hy, e⟩ => ?_, fun h => ⟨x, h, rfl⟩⟩
  have : y = x := Int.ofNat.inj e
  exact this ▸ hy
theorem ints_take (L : List Nat) (n : Nat) : (ints L).take n = ints (L.take n) := by unfold ints; rw [List.map_take]
theorem few_is (a0 : Int) (fb : List S34) : hallmarklaw07_few.f a0 fb = some (a0, fb.take 60) := by
  unfold hallmarklaw07_few.f
  by_cases h : (fb.length : Int) > 60
  · rw [if_pos h, if_pos (by omega)]
  · rw [if_neg h, List.take_of_length_le (by omega)]
theorem once_l1 (a0 : Int) (fb : List S34) (L : List Nat) (hL : L.length ≤ 100000) (hlt : ∀ x ∈ L, x < fb.length) (i : Nat) (hi : i < L.length) (hk : Ev (fun k => hallmarklaw07_CfgOnce.l0 k (ints L) ((i + 1 : Nat) : Int) a0 fb) true) :
    ∀ (d j : Nat) (b : Bool), d + j = L.length → (b = true ∨ ∃ t, j ≤ t ∧ ∃ ht : t < L.length, ((L[i] : Nat) : Int) ∈ nbOf fb L[t]) → Ev (fun k => hallmarklaw07_CfgOnce.l1 k (ints L) (i : Int) b (j : Int) a0 fb) true := by
  have hlen : ((ints L).length : Int) = (L.length : Int) := by rw [ints_length]
  intro d
  induction d with
  | zero =>
    intro j b hd hb
    have hbt : b = true := hb.elim id (fun ⟨t, h1, h2, _⟩ => by omega)
    subst hbt
    obtain ⟨K1, e1⟩ := hk
    refine ⟨K1 + 1, fun k hkk => ?_⟩
    obtain ⟨q, rfl⟩ : ∃ q, k = q + 1 := ⟨k - 1, by omega⟩
    dsimp only at e1
    show hallmarklaw07_CfgOnce.l1 (q + 1) (ints L) (i : Int) true (j : Int) a0 fb = _
    rw [hallmarklaw07_CfgOnce.l1, if_neg (by rw [hlen]; omega), if_pos rfl, w_nat i (by omega)]
    exact e1 q (by omega)
  | succ d ih =>
    intro j b hd hb
    have hj : j < L.length := by omega
    have hjN := hlt L[j] (List.getElem_mem hj)
    have hr := rd_ints L j hj
    have hri := rd_ints L i hi
    have g1 : (j : Int) < ((ints L).length : Int) := by rw [hlen]; omega
    have g2 : (i : Int) < ((ints L).length : Int) := by rw [hlen]; omega
    obtain ⟨K1, e1⟩ := next_ev (rd_T34 fb ((L[j] : Nat) : Int))
    obtain ⟨K2, e2⟩ := has_ev (nbOf fb L[j]) (Nat.le_trans (nbOf_len fb L[j]) (by decide)) ((L[i] : Nat) : Int)
    have hg := fun (b' : Bool) (h : decide (((L[i] : Nat) : Int) ∈ nbOf fb L[j]) = true → b' = true) (h2 : decide (((L[i] : Nat) : Int) ∈ nbOf fb L[j]) = false → b' = b) => ih (j + 1) b' (by omega) (by
      by_cases hm : ((L[i] : Nat) : Int) ∈ nbOf fb L[j]
      · exact .inl (h (decide_eq_true hm))
      · rw [h2 (decide_eq_false hm)]
        refine hb.imp id fun ⟨t, h1, h2, h3⟩ => ⟨t, ?_, h2, h3⟩
        rcases Nat.lt_or_ge j t with h | h
        · exact h
        · have : t = j := Nat.le_antisymm h h1
          subst this
          exact absurd h3 hm)
    obtain ⟨K3, e3⟩ := hg (if decide (((L[i] : Nat) : Int) ∈ nbOf fb L[j]) = true then true else b) (fun h => by rw [if_pos h]) (fun h => by rw [h]; rfl)
    refine ⟨K1 + K2 + K3 + 1, fun k hkk => ?_⟩
    obtain ⟨q, rfl⟩ : ∃ q, k = q + 1 := ⟨k - 1, by omega⟩
    dsimp only at e1 e2 e3
    show hallmarklaw07_CfgOnce.l1 (q + 1) (ints L) (i : Int) b (j : Int) a0 fb = _
    have e1' := e1 q (by omega)
    have e2' := e2 q (by omega)
    have e3' := e3 q (by omega)
    rw [← nbOf_nxS] at e1'
    have g3 : ((L[j] : Nat) : Int) < (fb.length : Int) := by omega
    have wj := w_nat j (by omega)
    rw [hallmarklaw07_CfgOnce.l1, if_pos g1, if_pos (Int.natCast_nonneg j), hr, if_pos (Int.natCast_nonneg _), if_pos g3, if_pos (Int.natCast_nonneg _), e1', Option.bind_some, if_pos (Int.natCast_nonneg i), if_pos g2, hri, e2', Option.bind_some, wj]
    split
    · rename_i h; rw [if_pos h] at e3'; exact e3'
    · rename_i h; rw [if_neg h] at e3'; exact e3'
theorem once_l0 (a0 : Int) (fb : List S34) (L : List Nat) (hL : L.length ≤ 100000) (hlt : ∀ x ∈ L, x < fb.length) (hnd : L.Nodup) (h0 : ∀ h : 0 < L.length, L[0] = 0) (hpre : ∀ x ∈ L, x ≠ 0 → ∃ y ∈ L, (x : Int) ∈ nbOf fb y) (hx : ((decide (((ints L).length : Int) > 0)) == (decide ((fb.length : Int) > 0))) = true) :
    ∀ (d i : Nat), d + i = L.length → Ev (fun k => hallmarklaw07_CfgOnce.l0 k (ints L) (i : Int) a0 fb) true := by
  have hlen : ((ints L).length : Int) = (L.length : Int) := by rw [ints_length]
  intro d
  induction d with
  | zero =>
    intro i hd
    obtain ⟨K1, e1⟩ := lives_ev
    refine ⟨K1 + 1, fun k hkk => ?_⟩
    obtain ⟨q, rfl⟩ : ∃ q, k = q + 1 := ⟨k - 1, by omega⟩
    dsimp only at e1
    show hallmarklaw07_CfgOnce.l0 (q + 1) (ints L) (i : Int) a0 fb = _
    rw [hallmarklaw07_CfgOnce.l0, if_neg (by rw [hlen]; omega), if_pos hx, e1 q (by omega)]; rfl
  | succ d ih =>
    intro i hd
    have hi : i < L.length := by omega
    have hri := rd_ints L i hi
    have g1 : (i : Int) < ((ints L).length : Int) := by rw [hlen]; omega
    have hLi : i ≠ 0 → L[i] ≠ 0 := fun hne e => by
      have hz := h0 (by omega)
      have : i = 0 := (List.getElem_inj hnd).1 (e.trans hz.symm)
      exact hne this
    obtain ⟨K3, e3⟩ := once_l1 a0 fb L hL hlt i hi (ih (i + 1) (by omega)) L.length 0 ((i : Int) == 0) (by omega) (by
      by_cases hz : i = 0
      · left; subst hz; rfl
      · right
        obtain ⟨y, hy, hm⟩ := hpre L[i] (List.getElem_mem hi) (hLi hz)
        obtain ⟨t, ht, e⟩ := List.getElem_of_mem hy
        exact ⟨t, Nat.zero_le _, ht, by rw [e]; exact hm⟩)
    obtain ⟨K1, e1⟩ := has_ev ((ints L).take i) (by rw [List.length_take, ints_length]; omega) ((L[i] : Nat) : Int)
    have hf : decide (((L[i] : Nat) : Int) ∈ (ints L).take i) = false := by
      refine decide_eq_false fun h => ?_
      rw [ints_take, mem_ints] at h
      obtain ⟨t, ht, e⟩ := List.getElem_of_mem h
      rw [List.length_take] at ht
      rw [List.getElem_take] at e
      have : t = i := (List.getElem_inj hnd).1 e
      omega
    have hb : (((i : Int) == 0) != (((L[i] : Nat) : Int) == 0)) = false := by
      by_cases hz : i = 0
      · subst hz
        rw [h0 (by omega)]; rfl
      · have := hLi hz
        have a1 : ((i : Int) == 0) = false := by rw [beq_eq_false_iff_ne]; omega
        have a2 : (((L[i] : Nat) : Int) == 0) = false := by rw [beq_eq_false_iff_ne]; omega
        rw [a1, a2]; rfl
    refine ⟨K1 + K3 + 2, fun k hkk => ?_⟩
    obtain ⟨q, rfl⟩ : ∃ q, k = q + 2 := ⟨k - 2, by omega⟩
    dsimp only at e1 e3
    show hallmarklaw07_CfgOnce.l0 (q + 1 + 1) (ints L) (i : Int) a0 fb = _
    have e1' := e1 (q + 1) (by omega)
    have e3' := e3 q (by omega)
    rw [hf] at e1'
    rw [hallmarklaw07_CfgOnce.l0, if_pos g1, if_pos (Int.natCast_nonneg i), if_pos (by omega), Int.toNat_natCast, hri, e1', Option.bind_some, if_neg (by decide), hallmarklaw07_CfgOnce.j1, hb, if_neg (by decide)]
    exact e3'
theorem CfgOnce : hallmarklaw07_CfgOnce.Pure := by
  intro a0 fb0 _ _
  obtain ⟨fb, hfb⟩ : ∃ fb, fb0.take 60 = fb := ⟨_, rfl⟩
  have hN : fb.length ≤ 60 := by rw [← hfb, List.length_take]; omega
  have key : Ev (fun k => hallmarklaw07_CfgOnce.f k a0 fb0) true := by
    by_cases hf : fb = []
    · have ho : cfg_Order.f a0 fb = some (ints []) := by subst hf; rfl
      refine Ev.congr (f := fun k => hallmarklaw07_CfgOnce.l0 k (ints []) ((0 : Nat) : Int) a0 fb) (fun k => ?_) (once_l0 a0 fb [] (by simp) (by simp) (by simp) (fun h => absurd h (by simp)) (by simp) (by subst hf; rfl) 0 0 rfl)
      show hallmarklaw07_CfgOnce.f k a0 fb0 = _
      unfold hallmarklaw07_CfgOnce.f
      rw [few_is, Option.bind_some, hfb, ho, Option.bind_some]; rfl
    · obtain ⟨o, hl, hnd, hlt, hpre, hol⟩ := left_facts fb (by omega) hf
      have hpos : 0 < fb.length := List.length_pos_iff.2 hf
      have ho : cfg_Order.f a0 fb = some (ints (0 :: o.reverse)) := by
        unfold cfg_Order.f cfg_order.f
        rw [hl, Option.map_some, Option.bind_some]
        unfold ints
        rw [← List.map_reverse, List.reverse_append]; rfl
      have hmem : ∀ x, x ∈ 0 :: o.reverse ↔ x ∈ o ++ [0] := fun x => by
        rw [List.mem_cons, List.mem_reverse, List.mem_append, List.mem_singleton]; exact Or.comm
      have hlen : (0 :: o.reverse).length ≤ 100000 := by
        rw [List.length_cons, List.length_reverse]
        omega
      refine Ev.congr (f := fun k => hallmarklaw07_CfgOnce.l0 k (ints (0 :: o.reverse)) ((0 : Nat) : Int) a0 fb) (fun k => ?_)
        (once_l0 a0 fb (0 :: o.reverse) hlen (fun x hx => hlt x ((hmem x).1 hx)) ?_ (fun _ => rfl) ?_ ?_ (0 :: o.reverse).length 0 rfl)
      · show hallmarklaw07_CfgOnce.f k a0 fb0 = _
        unfold hallmarklaw07_CfgOnce.f
        rw [few_is, Option.bind_some, hfb, ho, Option.bind_some]; rfl
      · have := List.pairwise_reverse.2 (hnd.imp fun h => h.symm)
        rw [List.reverse_append] at this; exact this
      · intro x hx hne
        obtain ⟨y, hy, h⟩ := hpre x (by
          rcases List.mem_cons.1 hx with h | h
          · exact absurd h hne
          · exact List.mem_reverse.1 h)
        exact ⟨y, (hmem y).2 hy, h⟩
      · rw [decide_eq_true (show ((ints (0 :: o.reverse)).length : Int) > 0 by rw [ints_length, List.length_cons]; omega), decide_eq_true (show (fb.length : Int) > 0 by omega)]; rfl
  exact key.rounds
end Go.Proofs.Ytfkicdelkjjliaa.Pure
