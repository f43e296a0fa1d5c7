/- Which blocks follow each block, with which values, and which are ahead of each. -/
import Derived.Test.YtfkicdelkjjliaaBaseCfgNext
set_option linter.unusedVariables false
namespace Go.Proofs.Ytfkicdelkjjliaa.Pure
open Go Go.RowKit Go.Proofs.YtfkicdelkjjliaaW.PrintWords Go.Proofs.YtfkicdelkjjliaaW.PrintLast Go.Proofs.YtfkicdelkjjliaaW.PrintMore Go.Proofs.Ytfkicdelkjjliaa.PCfgNext Go.Proofs.Ytfkicdelkjjliaa.BaseCfgNext

theorem few_is (a0 : Int) (fb : List S34) : hallmarklaw07_few.f a0 fb = some (a0, fb.take 60) := by
  unfold hallmarklaw07_few.f
  by_cases h : (fb.length : Int) > 60
  · rw [if_pos h, if_pos (by omega)]
  · rw [if_neg h, List.take_of_length_le (by omega)]
def nb (fb : List S34) (b : Nat) : List Int := nxS (rd_T34 fb (b : Int))
theorem nb_nodup (fb : List S34) (b : Nat) : (nb fb b).Nodup := by
  unfold nb nxS
  split
  · simp
  · split
    · split
      · simp
      · rename_i h
        simp
        exact fun e => h e.symm
    · simp
theorem nb_len (fb : List S34) (b : Nat) : (nb fb b).length ≤ 2 := nxS_len _
/-- the blocks below i that go to n -/
def ah (fb : List S34) (n : Nat) : Nat → List Int
  | 0 => []
  | i + 1 => ah fb n i ++ (if (n : Int) ∈ nb fb i then [(i : Int)] else [])
theorem ah_len (fb : List S34) (n : Nat) : ∀ i, (ah fb n i).length ≤ i
  | 0 => Nat.le_refl _
  | i + 1 => by
    have := ah_len fb n i
    rw [ah, List.length_append]
    split <;> simp <;> omega
theorem ref_ahead (a0 : Int) (fb : List S34) (hN : fb.length ≤ 60) (n : Nat) : ∀ (d i : Nat), d + i = fb.length → Ev (fun k => hallmarkref07_Ahead.l0 k (n : Int) (ah fb n i) (i : Int) a0 fb) (ah fb n fb.length) := by
  intro d
  induction d with
  | zero =>
    intro i hd
    have hi : i = fb.length := by omega
    subst hi
    refine ⟨1, fun k hkk => ?_⟩
    obtain ⟨q, rfl⟩ : ∃ q, k = q + 1 := ⟨k - 1, by omega⟩
    show hallmarkref07_Ahead.l0 (q + 1) (n : Int) (ah fb n fb.length) (fb.length : Int) a0 fb = _
    rw [hallmarkref07_Ahead.l0, if_neg (Int.lt_irrefl _)]
  | succ d ih =>
    intro i hd
    have hi : i < fb.length := by omega
    have hl := ah_len fb n i
    have g1 : (i : Int) < (fb.length : Int) := by omega
    have g2 : (ah fb n i).length < 17592186044416 := by omega
    obtain ⟨K1, e1⟩ := next_ev (rd_T34 fb (i : Int))
    obtain ⟨K2, e2⟩ := has_ev (nb fb i) (Nat.le_trans (nb_len fb i) (by decide)) (n : Int)
    obtain ⟨K3, e3⟩ := ih (i + 1) (by omega)
    refine ⟨K1 + K2 + K3 + 1, fun k hkk => ?_⟩
    obtain ⟨q, rfl⟩ : ∃ q, k = q + 1 := ⟨k - 1, by omega⟩
    dsimp only at e1 e2 e3
    show hallmarkref07_Ahead.l0 (q + 1) (n : Int) (ah fb n i) (i : Int) a0 fb = _
    have e1' := e1 q (by omega)
    have e2' := e2 q (by omega)
    have e3' := e3 q (by omega)
    rw [ah] at e3'
    rw [hallmarkref07_Ahead.l0, if_pos g1, if_pos (Int.natCast_nonneg i), e1', Option.bind_some]
    show (hallmarkref07_Has.f q (nb fb i) (n : Int)).bind _ = _
    rw [e2', Option.bind_some, w_nat i (by omega)]
    by_cases hm : (n : Int) ∈ nb fb i
    · rw [if_pos (decide_eq_true hm), if_pos g2]
      rw [if_pos hm] at e3'
      exact e3'
    · rw [if_neg (by rw [decide_eq_false hm]; decide)]
      rw [if_neg hm, List.append_nil] at e3'
      exact e3'
theorem ref_ahead_ev (a0 : Int) (fb : List S34) (hN : fb.length ≤ 60) (n : Nat) : Ev (fun k => hallmarkref07_Ahead.f k a0 fb (n : Int)) (ah fb n fb.length) := ref_ahead a0 fb hN n fb.length 0 rfl
/-- rows within the round of block i, when j of its next ones were looked at -/
def Rows (fb : List S34) (i j : Nat) (x : List (List Int)) : Prop := x.length = fb.length ∧ ∀ n, n < fb.length → x.getD n [] = ah fb n i ++ (if (n : Int) ∈ (nb fb i).take j then [(i : Int)] else [])
theorem rows_l0 (a0 : Int) (fb : List S34) (hN : fb.length ≤ 60) : ∀ (d i : Nat) (x : List (List Int)), d + i = fb.length → Rows fb i 0 x → EvP (fun k => cfg_Ahead.l0 k x fb (fb.length : Int) (i : Int) a0 fb) (fun y => y.length = fb.length ∧ ∀ n, n < fb.length → y.getD n [] = ah fb n fb.length) := by
  intro d
  induction d with
  | zero =>
    intro i x hd hx
    have hi : i = fb.length := by omega
    subst hi
    refine evp_step (f := fun _ => some x) (fun k => ?_) (evp_now x ⟨hx.1, fun n hn => by rw [hx.2 n hn]; simp⟩)
    show cfg_Ahead.l0 (k + 1) x fb (fb.length : Int) (fb.length : Int) a0 fb = _
    rw [cfg_Ahead.l0, if_neg (Int.lt_irrefl _)]
  | succ d ih =>
    intro i x hd hx
    have hi : i < fb.length := by omega
    have g1 : (i : Int) < (fb.length : Int) := by omega
    have hn2 := nb_len fb i
    have inner : ∀ (e j : Nat) (x : List (List Int)), e + j = (nb fb i).length → Rows fb i j x → EvP (fun k => cfg_Ahead.l1 k x (i : Int) fb (fb.length : Int) (i : Int) (nb fb i) ((nb fb i).length : Int) (j : Int) a0 fb) (fun y => y.length = fb.length ∧ ∀ n, n < fb.length → y.getD n [] = ah fb n fb.length) := by
      intro e
      induction e with
      | zero =>
        intro j x he hx
        have hj : j = (nb fb i).length := by omega
        subst hj
        refine evp_step (f := fun k => cfg_Ahead.l0 k x fb (fb.length : Int) ((i + 1 : Nat) : Int) a0 fb) (fun k => ?_) (ih (i + 1) x (by omega) ⟨hx.1, fun n hn => ?_⟩)
        · show cfg_Ahead.l1 (k + 1) x (i : Int) fb (fb.length : Int) (i : Int) (nb fb i) ((nb fb i).length : Int) ((nb fb i).length : Int) a0 fb = _
          rw [cfg_Ahead.l1, if_neg (Int.lt_irrefl _), w_nat i (by omega)]
        · rw [hx.2 n hn, List.take_length, List.take_zero, if_neg (show ¬ (n : Int) ∈ ([] : List Int) by simp), List.append_nil, ah]
      | succ e ih2 =>
        intro j x he hx
        have hj : j < (nb fb i).length := by omega
        have g3 : (j : Int) < ((nb fb i).length : Int) := by omega
        have hr := rd_nat (nb fb i) j hj
        obtain ⟨v, hv⟩ : ∃ v, (nb fb i)[j] = v := ⟨_, rfl⟩
        have htk : (nb fb i).take (j + 1) = (nb fb i).take j ++ [v] := by rw [List.take_succ_eq_append_getElem hj, hv]
        have hnd : v ∉ (nb fb i).take j := fun h => by
          have := nb_nodup fb i
          rw [← List.take_append_drop (j + 1) (nb fb i), htk, List.append_assoc] at this
          exact (List.nodup_append.1 this).2.2 v h v (by simp) rfl
        rw [hv] at hr
        by_cases hth : 0 ≤ v ∧ v < (fb.length : Int)
        · obtain ⟨v0, v1⟩ := hth
          have ht : cfg_there.f a0 fb v = some true := by unfold cfg_there.f; rw [if_pos v0, decide_eq_true v1]
          obtain ⟨m, rfl⟩ : ∃ m : Nat, v = m := ⟨v.toNat, by omega⟩
          have hm : m < fb.length := by omega
          have v2 : (m : Int) < (x.length : Int) := by rw [hx.1]; exact v1
          have hml : m < x.length := by omega
          have hrow : rd_L1 x (m : Int) = ah fb m i := by
            show x.getD (m : Int).toNat [] = _
            rw [Int.toNat_natCast, hx.2 m hm, if_neg hnd, List.append_nil]
          have hl := ah_len fb m i
          have g4 : (ah fb m i).length < 17592186044416 := by omega
          refine evp_step (f := fun k => cfg_Ahead.l1 k (x.set m (ah fb m i ++ [(i : Int)])) (i : Int) fb (fb.length : Int) (i : Int) (nb fb i) ((nb fb i).length : Int) ((j + 1 : Nat) : Int) a0 fb) (fun k => ?_) (ih2 (j + 1) _ (by omega) ⟨by rw [List.length_set]; exact hx.1, fun n hn => ?_⟩)
          · show cfg_Ahead.l1 (k + 1) x (i : Int) fb (fb.length : Int) (i : Int) (nb fb i) ((nb fb i).length : Int) (j : Int) a0 fb = _
            rw [cfg_Ahead.l1, if_pos g3, if_pos (Int.natCast_nonneg j), if_pos g3, hr, ht, Option.bind_some, if_pos rfl, if_pos v0, if_pos v2, hrow, if_pos g4, Int.toNat_natCast, w_nat j (by omega)]
          · by_cases e : n = m
            · subst e
              rw [List.getD_eq_getElem?_getD, List.getElem?_set_self hml, Option.getD_some, htk, if_pos (by simp)]
            · rw [List.getD_eq_getElem?_getD, List.getElem?_set_ne (fun h => e h.symm), ← List.getD_eq_getElem?_getD, hx.2 n hn, htk]
              have : ((n : Int) ∈ (nb fb i).take j ++ [(m : Int)]) ↔ ((n : Int) ∈ (nb fb i).take j) := by
                rw [List.mem_append, List.mem_singleton]
                exact ⟨fun h => h.elim id (fun h => absurd (Int.ofNat.inj h) e), .inl⟩
              simp only [this]
        · have ht : cfg_there.f a0 fb v = some false := by
            unfold cfg_there.f
            by_cases v0 : v ≥ 0
            · rw [if_pos v0, decide_eq_false (by omega)]
            · rw [if_neg v0]
          refine evp_step (f := fun k => cfg_Ahead.l1 k x (i : Int) fb (fb.length : Int) (i : Int) (nb fb i) ((nb fb i).length : Int) ((j + 1 : Nat) : Int) a0 fb) (fun k => ?_) (ih2 (j + 1) x (by omega) ⟨hx.1, fun n hn => ?_⟩)
          · show cfg_Ahead.l1 (k + 1) x (i : Int) fb (fb.length : Int) (i : Int) (nb fb i) ((nb fb i).length : Int) (j : Int) a0 fb = _
            rw [cfg_Ahead.l1, if_pos g3, if_pos (Int.natCast_nonneg j), if_pos g3, hr, ht, Option.bind_some, if_neg (by decide), w_nat j (by omega)]
          · rw [hx.2 n hn, htk]
            have : ((n : Int) ∈ (nb fb i).take j ++ [v]) ↔ ((n : Int) ∈ (nb fb i).take j) := by
              rw [List.mem_append, List.mem_singleton]
              exact ⟨fun h => h.elim id (fun h => absurd ⟨by omega, by omega⟩ hth), .inl⟩
            simp only [this]
    refine evp_step (f := fun k => cfg_Ahead.l1 k x (i : Int) fb (fb.length : Int) (i : Int) (nb fb i) ((nb fb i).length : Int) ((0 : Nat) : Int) a0 fb) (fun k => ?_) (inner (nb fb i).length 0 x rfl hx)
    show cfg_Ahead.l0 (k + 1) x fb (fb.length : Int) (i : Int) a0 fb = _
    rw [cfg_Ahead.l0, if_pos g1, if_pos (Int.natCast_nonneg i), if_pos g1, cfg_next_is, Option.bind_some]
    rfl
theorem ahead_ev (a0 : Int) (fb : List S34) (hN : fb.length ≤ 60) : EvP (fun k => cfg_Ahead.f k a0 fb) (fun y => y.length = fb.length ∧ ∀ n, n < fb.length → y.getD n [] = ah fb n fb.length) := by
  obtain ⟨y, hy, he⟩ := rows_l0 a0 fb hN fb.length 0 (List.replicate fb.length []) rfl ⟨by simp, fun n hn => by simp [ah, List.getD_eq_getElem?_getD, hn]⟩
  refine ⟨y, hy, Ev.congr (fun k => ?_) he⟩
  show cfg_Ahead.f k a0 fb = _
  unfold cfg_Ahead.f
  rw [if_pos (Int.natCast_nonneg _), if_pos (by rw [Int.toNat_natCast]; omega), Int.toNat_natCast]; rfl
theorem ref_targets (K a tt els : Int) (l4 l5 : List Int) : Ev (fun k => hallmarkref07_Targets.f k K a tt els l4 l5) (tgR K tt els l4 l5) := by
  refine Ev.of (fun k => hallmarkref07_Targets.mono _ _ _ _ _ _ k) (k := 4) ?_
  by_cases h0 : K = 0
  · subst h0; simp [hallmarkref07_Targets.f, hallmarkref07_Targets.j0, tgR]
  · by_cases h1 : K = 1
    · subst h1; simp [hallmarkref07_Targets.f, hallmarkref07_Targets.j0, tgR]
    · have h2 : (K == 1) = false := by simpa using h1
      simp [hallmarkref07_Targets.f, hallmarkref07_Targets.j0, tgR, h0, h1, h2]
theorem tgR_len (K tt els : Int) (l4 l5 : List Int) : (tgR K tt els l4 l5).length ≤ 2 := by
  unfold tgR
  by_cases h0 : K = 0 <;> by_cases h1 : K = 1 <;> simp [h0, h1]
theorem tgR_mem {K tt els : Int} {l4 l5 : List Int} {B : Nat} (h4 : l4.length ≤ B) (h5 : l5.length ≤ B) : ∀ x ∈ tgR K tt els l4 l5, x.f1.length ≤ B := by
  intro x hx
  unfold tgR at hx
  rcases List.mem_append.1 hx with h | h
  · split at h
    · rw [List.mem_singleton.1 h]; exact h4
    · cases h
  · split at h
    · rw [List.mem_singleton.1 h]; exact h5
    · cases h
theorem next_l1 (a0 : Int) (fb : List S34) (x : List (List Int)) (i : Nat) (ts : List S46) (hts : ts.length ≤ 2) (hB : ∀ y ∈ ts, y.f1.length ≤ 17592186044416) (hi : i < 100) (hk : Ev (fun k => hallmarklaw07_CfgNext.l0 k x ((i + 1 : Nat) : Int) a0 fb) true) :
    ∀ (d j : Nat), d + j = ts.length → Ev (fun k => hallmarklaw07_CfgNext.l1 k x (i : Int) ts ts (j : Int) a0 fb) true := by
  intro d
  induction d with
  | zero =>
    intro j hd
    obtain ⟨K1, e1⟩ := hk
    refine ⟨K1 + 1, fun k hkk => ?_⟩
    obtain ⟨q, rfl⟩ : ∃ q, k = q + 1 := ⟨k - 1, by omega⟩
    dsimp only at e1
    show hallmarklaw07_CfgNext.l1 (q + 1) x (i : Int) ts ts (j : Int) a0 fb = _
    rw [hallmarklaw07_CfgNext.l1, if_neg (by omega), w_nat i (by omega)]
    exact e1 q (by omega)
  | succ d ih =>
    intro j hd
    have hj : j < ts.length := by omega
    have g1 : (j : Int) < (ts.length : Int) := by omega
    have hmem : rd_T46 ts (j : Int) ∈ ts := by
      unfold rd_T46
      rw [Int.toNat_natCast, List.getD_eq_getElem?_getD, List.getElem?_eq_getElem hj]
      exact List.getElem_mem hj
    obtain ⟨K1, e1⟩ := ints_ev (rd_T46 ts (j : Int)).f1 (Nat.le_trans (hB _ hmem) (by decide))
    obtain ⟨K2, e2⟩ := ih (j + 1) (by omega)
    refine ⟨K1 + K2 + 1, fun k hkk => ?_⟩
    obtain ⟨q, rfl⟩ : ∃ q, k = q + 1 := ⟨k - 1, by omega⟩
    dsimp only at e1 e2
    show hallmarklaw07_CfgNext.l1 (q + 1) x (i : Int) ts ts (j : Int) a0 fb = _
    rw [hallmarklaw07_CfgNext.l1, if_pos g1, if_pos (Int.natCast_nonneg j), if_pos g1, if_pos rfl, e1 q (by omega), Option.bind_some, if_pos rfl, w_nat j (by omega)]
    exact e2 q (by omega)
theorem next_l0 (a0 : Int) (fb : List S34) (hN : fb.length ≤ 60) (hV : ∀ y ∈ fb, y.f2.f4.length < 17592186044416 ∧ y.f2.f5.length < 17592186044416) (x : List (List Int)) (hx : x.length = fb.length ∧ ∀ n, n < fb.length → x.getD n [] = ah fb n fb.length) :
    ∀ (d i : Nat), d + i = fb.length → Ev (fun k => hallmarklaw07_CfgNext.l0 k x (i : Int) a0 fb) true := by
  intro d
  induction d with
  | zero =>
    intro i hd
    obtain ⟨K1, e1⟩ := lives_ev
    refine ⟨K1 + 1, fun k hkk => ?_⟩
    obtain ⟨q, rfl⟩ : ∃ q, k = q + 1 := ⟨k - 1, by omega⟩
    dsimp only at e1
    show hallmarklaw07_CfgNext.l0 (q + 1) x (i : Int) a0 fb = _
    rw [hallmarklaw07_CfgNext.l0, if_neg (by omega), e1 q (by omega)]; rfl
  | succ d ih =>
    intro i hd
    have hi : i < fb.length := by omega
    have g1 : (i : Int) < (fb.length : Int) := by omega
    have g2 : (i : Int) < (x.length : Int) := by rw [hx.1]; exact g1
    obtain ⟨b, hb⟩ : ∃ b, rd_T34 fb (i : Int) = b := ⟨_, rfl⟩
    have hmem : b ∈ fb := by
      rw [← hb]
      unfold rd_T34
      rw [Int.toNat_natCast, List.getD_eq_getElem?_getD, List.getElem?_eq_getElem hi]
      exact List.getElem_mem hi
    obtain ⟨h4, h5⟩ := hV b hmem
    have ht : cfg_Targets.f b.f2.f0 b.f2.f1 b.f2.f2 b.f2.f3 b.f2.f4 b.f2.f5 = some (tgR b.f2.f0 b.f2.f2 b.f2.f3 b.f2.f4 b.f2.f5) := by
      unfold cfg_Targets.f; rw [if_pos ⟨h4, h5⟩]
    have hn : cfg_Next.f b.f0 b.f1 b.f2.f0 b.f2.f1 b.f2.f2 b.f2.f3 b.f2.f4 b.f2.f5 = some (nxS b) := by
      unfold cfg_Next.f; rw [cfg_next_is, Option.bind_some]
    have hrow : rd_L1 x (i : Int) = ah fb i fb.length := by
      show x.getD (i : Int).toNat [] = _
      rw [Int.toNat_natCast, hx.2 i hi]
    obtain ⟨K1, e1⟩ := ref_targets b.f2.f0 b.f2.f1 b.f2.f2 b.f2.f3 b.f2.f4 b.f2.f5
    obtain ⟨K2, e2⟩ := next_ev b
    obtain ⟨K3, e3⟩ := ints_ev (nxS b) (Nat.le_trans (nxS_len b) (by decide))
    obtain ⟨K4, e4⟩ := ref_ahead_ev a0 fb hN i
    obtain ⟨K5, e5⟩ := ints_ev (ah fb i fb.length) (Nat.le_trans (ah_len fb i fb.length) (Nat.le_trans hN (by decide)))
    obtain ⟨K6, e6⟩ := next_l1 a0 fb x i (tgR b.f2.f0 b.f2.f2 b.f2.f3 b.f2.f4 b.f2.f5) (tgR_len _ _ _ _ _) (tgR_mem (Nat.le_of_lt h4) (Nat.le_of_lt h5)) (by omega) (ih (i + 1) (by omega)) _ 0 rfl
    refine ⟨K1 + K2 + K3 + K4 + K5 + K6 + 2, fun k hkk => ?_⟩
    obtain ⟨q, rfl⟩ : ∃ q, k = q + 2 := ⟨k - 2, by omega⟩
    dsimp only at e1 e2 e3 e4 e5 e6
    show hallmarklaw07_CfgNext.l0 (q + 1 + 1) x (i : Int) a0 fb = _
    rw [hallmarklaw07_CfgNext.l0, if_pos g1, if_pos (Int.natCast_nonneg i), hb, ht, Option.bind_some, e1 _ (by omega), Option.bind_some, hn, Option.bind_some, e2 _ (by omega), Option.bind_some, e3 _ (by omega), Option.bind_some, if_pos rfl, if_pos g2, e4 _ (by omega), Option.bind_some, hrow, e5 _ (by omega), Option.bind_some, if_pos rfl, hallmarklaw07_CfgNext.j1, if_neg (by simp)]
    exact e6 q (by omega)
theorem CfgNext : hallmarklaw07_CfgNext.Pure := by
  intro a0 fb0 _ hV0
  obtain ⟨fb, hfb⟩ : ∃ fb, fb0.take 60 = fb := ⟨_, rfl⟩
  have hN : fb.length ≤ 60 := by rw [← hfb, List.length_take]; omega
  have hV : ∀ y ∈ fb, y.f2.f4.length < 17592186044416 ∧ y.f2.f5.length < 17592186044416 := fun y hy => by
    have h := hV0.2.2 y (List.mem_of_mem_take (hfb ▸ hy))
    have h4 := h.2.2.2.2.2.2.1.1
    have h5 := h.2.2.2.2.2.2.2.1
    exact ⟨by omega, by omega⟩
  obtain ⟨x, hx, K1, e1⟩ := ahead_ev a0 fb hN
  obtain ⟨K2, e2⟩ := next_l0 a0 fb hN hV x hx fb.length 0 rfl
  dsimp only at e1 e2
  refine ⟨K1 + K2, ?_⟩
  unfold hallmarklaw07_CfgNext.f
  rw [few_is, Option.bind_some, hfb, e1 _ (by omega), Option.bind_some, if_pos (by rw [hx.1])]
  exact e2 _ (by omega)
end Go.Proofs.Ytfkicdelkjjliaa.Pure
