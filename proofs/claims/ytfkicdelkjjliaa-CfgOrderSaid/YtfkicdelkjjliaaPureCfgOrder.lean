/- In which order blocks are met, and left: the way by a list of places and the document's walk come to the same. -/
import Derived.Test.YtfkicdelkjjliaaPCfgOrderx
set_option linter.unusedVariables false
namespace Go.Proofs.Ytfkicdelkjjliaa.Pure
open Go Go.RowKit Go.Proofs.YtfkicdelkjjliaaW.PrintWords Go.Proofs.YtfkicdelkjjliaaW.PrintLast Go.Proofs.YtfkicdelkjjliaaW.PrintMore Go.Proofs.Ytfkicdelkjjliaa.PCfgOrder

/-- Ints tells whether two lists are one -/
theorem ints_l (l : List Int) (hl : l.length ≤ 9223372036854775000) : ∀ (d i : Nat), d + i = l.length → Ev (fun k => hallmarkref04_Ints.l0 k l l (i : Int)) true := by
  intro d
  induction d with
  | zero =>
    intro i hd
    refine ev_step (f := fun _ => some true) (fun k => ?_) (Ev.now _)
    show hallmarkref04_Ints.l0 (k + 1) l l (i : Int) = some true
    rw [hallmarkref04_Ints.l0, if_neg (by omega)]
  | succ d ih =>
    intro i hd
    refine ev_step (f := fun k => hallmarkref04_Ints.l0 k l l ((i + 1 : Nat) : Int)) (fun k => ?_) (ih (i + 1) (by omega))
    show hallmarkref04_Ints.l0 (k + 1) l l (i : Int) = _
    have h1 : (i : Int) < (l.length : Int) := by omega
    rw [hallmarkref04_Ints.l0, if_pos h1, if_pos (by omega), if_pos h1, if_pos rfl, w_nat i (by omega)]
theorem ints_ev (l : List Int) (hl : l.length ≤ 9223372036854775000) : Ev (fun k => hallmarkref04_Ints.f k l l) true := by
  refine Ev.congr (f := fun k => hallmarkref04_Ints.l0 k l l ((0 : Nat) : Int)) (fun k => ?_) (ints_l l hl l.length 0 (by omega))
  show hallmarkref04_Ints.f k l l = _
  unfold hallmarkref04_Ints.f
  rw [if_pos rfl]; rfl
theorem lives_ev : Ev (fun k => hallmarklaw07_lives.f k) true := Ev.of (fun k => hallmarklaw07_lives.mono k) (k := 10) (by kernel_rfl)
theorem few_is (a0 : Int) (fb : List S34) : hallmarklaw07_few.f a0 fb = some (a0, fb.take 60) := by
  unfold hallmarklaw07_few.f
  by_cases h : (fb.length : Int) > 60
  · rw [if_pos h, if_pos (by omega)]
  · rw [if_neg h, List.take_of_length_le (by omega)]
theorem marks_at (N : Nat) : ∀ (l : List Nat) (acc : List Bool), acc.length = N → ∀ x, x < N → (l.foldl (fun acc b => acc.set b true) acc).getD x false = (acc.getD x false || decide (x ∈ l)) := by
  intro l
  induction l with
  | nil => intro acc _ x _; simp
  | cons y l ih =>
    intro acc ha x hx
    rw [List.foldl_cons, ih (acc.set y true) (by rw [List.length_set]; exact ha) x hx]
    by_cases e : x = y
    · subst e
      rw [set_getD acc x x (by omega), if_pos rfl]
      simp
    · have : (acc.set y true).getD x false = acc.getD x false := by
        rw [List.getD_eq_getElem?_getD, List.getElem?_set_ne (fun h => e h.symm), ← List.getD_eq_getElem?_getD]
      rw [this]
      have e2 : decide (x ∈ y :: l) = decide (x ∈ l) := decide_eq_decide.2 ⟨fun h => (List.mem_cons.1 h).elim (fun h => absurd h e) id, List.mem_cons_of_mem _⟩
      rw [e2]
theorem marks_is (N : Nat) (l : List Nat) (x : Nat) (hx : x < N) : (marks N l).getD x false = decide (x ∈ l) := by
  unfold marks
  rw [marks_at N l _ (by simp) x hx]
  simp [List.getD_eq_getElem?_getD, hx]
theorem order_l0 (N : Nat) (hN : N ≤ 60) (XS : List Nat) (hX : XS.length ≤ 100) : ∀ (d i : Nat), d + i = N → Ev (fun k => hallmarklaw07_CfgOrder.l0 k (ints XS.reverse) (marks N XS) (i : Int)) true := by
  have hlen : (marks N XS).length = N := marks_length N XS
  intro d
  induction d with
  | zero =>
    intro i hd
    obtain ⟨K1, e1⟩ := lives_ev
    refine ⟨K1 + 1, fun k hkk => ?_⟩
    obtain ⟨q, rfl⟩ : ∃ q, k = q + 1 := ⟨k - 1, by omega⟩
    dsimp only at e1
    show hallmarklaw07_CfgOrder.l0 (q + 1) (ints XS.reverse) (marks N XS) (i : Int) = _
    rw [hallmarklaw07_CfgOrder.l0, if_neg (by rw [hlen]; omega), e1 q (by omega)]; rfl
  | succ d ih =>
    intro i hd
    have hi : i < N := by omega
    have g1 : (i : Int) < ((marks N XS).length : Int) := by rw [hlen]; omega
    obtain ⟨K1, e1⟩ := has_ev (ints XS.reverse) (by rw [ints_length, List.length_reverse]; exact Nat.le_trans hX (by decide)) (i : Int)
    have hm : decide ((i : Int) ∈ ints XS.reverse) = decide (i ∈ XS) := decide_eq_decide.2 (by rw [mem_ints (Int.natCast_nonneg i), Int.toNat_natCast, List.mem_reverse])
    have hr : rdOf false (marks N XS) (i : Int) = decide (i ∈ XS) := by
      show (marks N XS).getD (i : Int).toNat false = _
      rw [Int.toNat_natCast]; exact marks_is N XS i hi
    obtain ⟨K2, e2⟩ := ih (i + 1) (by omega)
    refine ⟨K1 + K2 + 1, fun k hkk => ?_⟩
    obtain ⟨q, rfl⟩ : ∃ q, k = q + 1 := ⟨k - 1, by omega⟩
    dsimp only at e1 e2
    show hallmarklaw07_CfgOrder.l0 (q + 1) (ints XS.reverse) (marks N XS) (i : Int) = _
    rw [hallmarklaw07_CfgOrder.l0, if_pos g1, if_pos (Int.natCast_nonneg i), e1 q (by omega), Option.bind_some, hm, hr, if_neg (by simp), w_nat i (by omega)]
    exact e2 q (by omega)
theorem left_some (fb : List S34) (hN : fb.length ≤ 60) : ∃ XS, Go.Proofs.Ytfkicdelkjjliaa.PCfgOrder.leftOf fb = some XS ∧ XS.length ≤ 60 := by
  by_cases hf : fb = []
  · subst hf; exact ⟨[], rfl, by simp⟩
  · obtain ⟨o, hl, hnd, hlt, hpre, hol⟩ := left_facts fb (by omega) hf
    exact ⟨_, hl, by rw [List.length_append, List.length_singleton]; omega⟩
theorem CfgOrder : hallmarklaw07_CfgOrder.Pure := by
  intro a0 fb0 _ _
  obtain ⟨fb, hfb⟩ : ∃ fb, fb0.take 60 = fb := ⟨_, rfl⟩
  have hN : fb.length ≤ 60 := by rw [← hfb, List.length_take]; omega
  obtain ⟨XS, hXS, hlen⟩ := left_some fb hN
  have hre : (ints XS).reverse = ints XS.reverse := by unfold ints; rw [List.map_reverse]
  have h1 : cfg_Order.f a0 fb = some (ints XS.reverse) := by
    unfold cfg_Order.f cfg_order.f
    rw [hXS, Option.map_some, Option.bind_some, hre]
  have h2 : cfg_Reached.f a0 fb = some (marks fb.length XS) := by
    unfold cfg_Reached.f
    rw [hXS, Option.map_some]
  have h3 : hallmarkref07_Order.f a0 fb = some (ints XS.reverse) := by
    unfold hallmarkref07_Order.f
    rw [hXS, Option.map_some, hre]
  obtain ⟨K1, e1⟩ := ints_ev (ints XS.reverse) (by rw [ints_length, List.length_reverse]; exact Nat.le_trans hlen (by decide))
  obtain ⟨K2, e2⟩ := order_l0 fb.length hN XS (by omega) fb.length 0 rfl
  dsimp only at e1 e2
  refine ⟨K1 + K2 + 1, ?_⟩
  unfold hallmarklaw07_CfgOrder.f
  rw [few_is, Option.bind_some, hfb, h1, Option.bind_some, h2, Option.bind_some, h3, Option.bind_some, e1 _ (by omega), Option.bind_some, if_pos rfl, marks_length]
  show hallmarklaw07_CfgOrder.j0 (K1 + K2 + 1) (ints XS.reverse) (marks fb.length XS) ((fb.length : Int) != (fb.length : Int)) = some true
  rw [hallmarklaw07_CfgOrder.j0, if_neg (by simp)]
  exact e2 _ (by omega)
end Go.Proofs.Ytfkicdelkjjliaa.Pure
