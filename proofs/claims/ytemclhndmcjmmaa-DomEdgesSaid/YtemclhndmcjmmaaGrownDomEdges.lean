/- The order of blocks, and what the rounds come to: which block is over which. -/
import Derived.Test.YtemclhndmcjmmaaVisDomEdges
import Derived.Test.YtemclhndmcjmmaaTreeDomEdges
set_option linter.unusedVariables false
set_option linter.unusedSectionVars false
namespace Go.Proofs.Ytemclhndmcjmmaa.BaseDomEdges
open Go Go.RowKit Go.Proofs.YtemclhndmcjmmaaW.PrintWords Go.Proofs.YtemclhndmcjmmaaW.PrintLast Go.Proofs.YtemclhndmcjmmaaW.PrintMore Go.Proofs.Ytemclhndmcjmmaa.PDomEdges Go.Proofs.Ytemclhndmcjmmaa.DomTree
theorem idx_ne {x y : Nat} {l : List Nat} (h : x ≠ y) : (x :: l).idxOf y = l.idxOf y + 1 := by
  have : (x == y) = false := by simpa using h
  rw [List.idxOf_cons, this]; rfl
theorem nd_rev {l : List Nat} (h : l.Nodup) : l.reverse.Nodup := List.pairwise_reverse.2 (h.imp (fun hne e => hne e.symm))
theorem vis_pre {N : Nat} {nb : Nat → List Int} {k : Nat} {m m' : List Bool} {o o' : List Nat} {l : List Int} (h : Vis N nb k m o l m' o') : ∃ C, o' = o ++ C := by
  induction h with
  | nil m o => exact ⟨[], by simp⟩
  | skip hn t ih => exact ih
  | visit hn t1 t2 ih1 ih2 =>
    rename_i k1 k2 m m1 m' o o1 o' n l
    obtain ⟨C1, e1⟩ := ih1
    obtain ⟨C2, e2⟩ := ih2
    refine ⟨C1 ++ ([n.toNat] ++ C2), ?_⟩
    rw [e2, e1, List.append_assoc, List.append_assoc]
theorem vis_grow {N : Nat} {nb : Nat → List Int} {k : Nat} {m m' : List Bool} {o o' : List Nat} {l : List Int} (h : Vis N nb k m o l m' o') : m.length = N → ∀ x, m.getD x false = true → m'.getD x false = true := by
  induction h with
  | nil m o => intro _ x hx; exact hx
  | skip hn t ih => exact ih
  | visit hn t1 t2 ih1 ih2 =>
    rename_i k1 k2 m m1 m' o o1 o' n l
    intro hm x hx
    have hl1 : (m.set n.toNat true).length = N := by rw [List.length_set]; exact hm
    have hlt : n.toNat < N := by have := hn.1; have := hn.2.1; omega
    refine ih2 (vis_len t1 hl1).1 x (ih1 hl1 x ?_)
    rw [set_getD m n.toNat x (by omega)]
    split
    · rfl
    · exact hx
theorem vis_closed {N : Nat} {nb : Nat → List Int} {k : Nat} {m m' : List Bool} {o o' : List Nat} {l : List Int} (h : Vis N nb k m o l m' o') : m.length = N → (∀ x ∈ o, ∀ n ∈ nb x, 0 ≤ n → n < (N : Int) → m.getD n.toNat false = true) →
    (∀ n ∈ l, 0 ≤ n → n < (N : Int) → m'.getD n.toNat false = true) ∧ (∀ x ∈ o', ∀ n ∈ nb x, 0 ≤ n → n < (N : Int) → m'.getD n.toNat false = true) := by
  induction h with
  | nil m o => intro _ h; exact ⟨by simp, h⟩
  | skip hn t ih =>
    rename_i k m m' o o' n l
    intro hm h
    obtain ⟨h1, h2⟩ := ih hm h
    refine ⟨fun n' hn' h0 hN => ?_, h2⟩
    rcases List.mem_cons.1 hn' with e | hn'
    · subst e
      refine vis_grow t hm _ ?_
      cases hb : m.getD n'.toNat false with
      | true => rfl
      | false => exact absurd ⟨h0, hN, hb⟩ hn
    · exact h1 n' hn' h0 hN
  | visit hn t1 t2 ih1 ih2 =>
    rename_i k1 k2 m m1 m' o o1 o' n l
    intro hm h
    have hlt : n.toNat < N := by have := hn.1; have := hn.2.1; omega
    have hl1 : (m.set n.toNat true).length = N := by rw [List.length_set]; exact hm
    have hset : ∀ x, m.getD x false = true → (m.set n.toNat true).getD x false = true := fun x hx => by
      rw [set_getD m n.toNat x (by omega)]; split
      · rfl
      · exact hx
    obtain ⟨a1, a2⟩ := ih1 hl1 (fun x hx n' hn' h0 hN => hset _ (h x hx n' hn' h0 hN))
    have hm1 := (vis_len t1 hl1).1
    obtain ⟨b1, b2⟩ := ih2 hm1 (fun x hx n' hn' h0 hN => by
      rcases List.mem_append.1 hx with hx | hx
      · exact a2 x hx n' hn' h0 hN
      · rw [List.mem_singleton.1 hx] at hn'; exact a1 n' hn' h0 hN)
    refine ⟨fun n' hn' h0 hN => ?_, b2⟩
    rcases List.mem_cons.1 hn' with e | hn'
    · subst e
      refine vis_grow t2 hm1 _ (vis_grow t1 hl1 _ ?_)
      rw [set_getD m n'.toNat n'.toNat (by omega), if_pos rfl]
    · exact b1 n' hn' h0 hN
theorem vis_par {N : Nat} {nb : Nat → List Int} {k : Nat} {m m' : List Bool} {o o' : List Nat} {l : List Int} (h : Vis N nb k m o l m' o') : ∀ x ∈ o', x ∈ o ∨ (x : Int) ∈ l ∨ ∃ A B y, o' = A ++ B ∧ x ∈ A ∧ y ∈ B ∧ (x : Int) ∈ nb y := by
  induction h with
  | nil m o => intro x hx; exact .inl hx
  | skip hn t ih => intro x hx; exact (ih x hx).imp id (Or.imp (List.mem_cons_of_mem _) id)
  | visit hn t1 t2 ih1 ih2 =>
    rename_i k1 k2 m m1 m' o o1 o' n l
    intro x hx
    obtain ⟨C, hC⟩ := vis_pre t2
    have hcast : ((n.toNat : Nat) : Int) = n := Int.toNat_of_nonneg hn.1
    rcases ih2 x hx with h | h | h
    · rcases List.mem_append.1 h with h | h
      · rcases ih1 x h with h1 | h1 | ⟨A, B, y, e, hA, hB, hy⟩
        · exact .inl h1
        · exact .inr (.inr ⟨o1, [n.toNat] ++ C, n.toNat, by rw [hC, List.append_assoc], h, by simp, h1⟩)
        · exact .inr (.inr ⟨A, B ++ [n.toNat] ++ C, y, by rw [hC, e]; simp only [List.append_assoc], hA, by simp [hB], hy⟩)
      · exact .inr (.inl (by rw [List.mem_singleton.1 h, hcast]; exact List.mem_cons_self))
    · exact .inr (.inl (List.mem_cons_of_mem _ h))
    · exact .inr (.inr h)
/-- the order of blocks -/
structure Ord (fb : List S54) (XS : List Nat) : Prop where
  left : Go.Proofs.Ytemclhndmcjmmaa.PDomEdges.leftOf fb = some XS
  nd : XS.Nodup
  lt : ∀ x ∈ XS, x < fb.length
  last : ∃ o, XS = o ++ [0]
  closed : ∀ x ∈ XS, ∀ n ∈ nbOf fb x, 0 ≤ n → n < (fb.length : Int) → n.toNat ∈ XS
  par : ∀ x ∈ XS, x ≠ 0 → ∃ A B y, XS = A ++ B ∧ x ∈ A ∧ y ∈ B ∧ (x : Int) ∈ nbOf fb y
theorem ord_is (fb : List S54) (hN : fb.length ≤ 1099511627776) (hf : fb ≠ []) : ∃ XS, Ord fb XS := by
  have hpos : 0 < fb.length := List.length_pos_iff.2 hf
  obtain ⟨k, m', o, hv, hl⟩ := left_is fb hN hf
  obtain ⟨o2, hl2, hnd, hlt, hpre, hol⟩ := left_facts fb hN hf
  obtain rfl : o = o2 := by
    have := Option.some.inj (hl.symm.trans hl2)
    exact List.append_cancel_right this
  obtain ⟨a1, a2, a3, a4, a5, a6, a7⟩ := vis_met hv [0] (by simp) (fun x hx => by
    rw [set_getD _ 0 x (by simp [hpos])]
    by_cases e : x = 0
    · rw [if_pos e]; simp [e]
    · rw [if_neg e]; simp [e, List.getD_eq_getElem?_getD, hx]) (by simp) (by simp) (by simp)
  obtain ⟨c1, c2⟩ := vis_closed hv (by simp) (by simp)
  have hin : ∀ n : Int, 0 ≤ n → n < (fb.length : Int) → m'.getD n.toNat false = true → n.toNat ∈ o ++ [0] := fun n h0 h1 hm => by
    rcases (a1 n.toNat (by omega)).1 hm with h | h
    · exact List.mem_append_left _ h
    · exact List.mem_append_right _ h
  refine ⟨o ++ [0], hl, hnd, hlt, ⟨o, rfl⟩, fun x hx n hn h0 h1 => ?_, fun x hx hx0 => ?_⟩
  · rcases List.mem_append.1 hx with hx | hx
    · exact hin n h0 h1 (c2 x hx n hn h0 h1)
    · rw [List.mem_singleton.1 hx] at hn; exact hin n h0 h1 (c1 n hn h0 h1)
  · have hxo : x ∈ o := (List.mem_append.1 hx).elim id (fun h => absurd (List.mem_singleton.1 h) hx0)
    rcases vis_par hv x hxo with h | h | ⟨A, B, y, e, hA, hB, hy⟩
    · cases h
    · exact ⟨o, [0], 0, rfl, hxo, by simp, h⟩
    · exact ⟨A, B ++ [0], y, by rw [e, List.append_assoc], hA, List.mem_append_left _ hB, hy⟩
/-- the block's place in the order -/
def plOf (XS : List Nat) (x : Nat) : Nat := XS.reverse.idxOf x
def EdOf (fb : List S54) (XS : List Nat) (a b : Nat) : Prop := a ∈ XS ∧ b < fb.length ∧ (b : Int) ∈ nbOf fb a
theorem plOf_lt {XS : List Nat} {x : Nat} (h : x ∈ XS) : plOf XS x < XS.length := by
  have := List.idxOf_lt_length_of_mem (List.mem_reverse.2 h)
  rwa [List.length_reverse] at this
theorem gr_is {fb : List S54} {XS : List Nat} (h : Ord fb XS) : Gr (· ∈ XS) (plOf XS) (EdOf fb XS) := by
  obtain ⟨o, ho⟩ := h.last
  refine ⟨fun a b ha hb e => ?_, by rw [ho]; simp, by unfold plOf; rw [ho, List.reverse_append]; simp, fun a b hab => ⟨hab.1, ?_⟩, fun b hb hb0 => ?_⟩
  · have h1 := List.getElem_idxOf (List.idxOf_lt_length_of_mem (List.mem_reverse.2 ha))
    have h2 := List.getElem_idxOf (List.idxOf_lt_length_of_mem (List.mem_reverse.2 hb))
    unfold plOf at e
    rw [← h1, ← h2]
    simp only [e]
  · have := h.closed a hab.1 (b : Int) hab.2.2 (by omega) (by have := hab.2.1; omega)
    rwa [Int.toNat_natCast] at this
  · obtain ⟨A, B, y, e, hA, hB, hy⟩ := h.par b hb hb0
    refine ⟨y, ⟨by rw [e]; exact List.mem_append_right _ hB, h.lt b hb, hy⟩, ?_⟩
    have hnB : b ∉ B := fun hb2 => by
      have := h.nd
      rw [e] at this
      exact (List.nodup_append.1 this).2.2 b hA b hb2 rfl
    unfold plOf
    rw [e, List.reverse_append, List.idxOf_append, List.idxOf_append, if_pos (List.mem_reverse.2 hB), if_neg (fun h => hnB (List.mem_reverse.1 h))]
    have := List.idxOf_lt_length_of_mem (List.mem_reverse.2 hB)
    omega
theorem placed_len : ∀ (l : List Int) (i : Nat) (pl : List Int), (placed l i pl).length = pl.length
  | [], i, pl => rfl
  | b :: l, i, pl => by rw [placed, placed_len l, List.length_set]
theorem placed_at : ∀ (L : List Nat) (i : Nat) (pl : List Int), L.Nodup → (∀ b ∈ L, b < pl.length) → ∀ (x : Nat) (d : Int), (placed (ints L) i pl).getD x d = if x ∈ L then ((i + L.idxOf x : Nat) : Int) else pl.getD x d
  | [], i, pl, _, _, x, d => by simp [ints, placed]
  | b :: L, i, pl, hnd, hlt, x, d => by
    have hbn := (List.nodup_cons.1 hnd).1
    have hb := hlt b List.mem_cons_self
    show (placed (ints L) (i + 1) (pl.set ((b : Int)).toNat (i : Int))).getD x d = _
    rw [Int.toNat_natCast, placed_at L (i + 1) (pl.set b (i : Int)) (List.nodup_cons.1 hnd).2 (fun y hy => by rw [List.length_set]; exact hlt y (List.mem_cons_of_mem _ hy)) x d]
    by_cases hx : x ∈ L
    · have hne : b ≠ x := fun e => hbn (e ▸ hx)
      rw [if_pos hx, if_pos (List.mem_cons_of_mem _ hx), idx_ne hne]
      congr 1; omega
    · rw [if_neg hx]
      by_cases e : x = b
      · subst e
        rw [if_pos List.mem_cons_self, List.idxOf_cons_self, List.getD_eq_getElem?_getD, List.getElem?_set_self hb]
        rfl
      · rw [if_neg (fun h => (List.mem_cons.1 h).elim e hx), List.getD_eq_getElem?_getD, List.getElem?_set_ne (fun h => e h.symm), ← List.getD_eq_getElem?_getD]
def nb (fb : List S54) (b : Nat) : List Int := nxS (rd_T54 fb (b : Int))
theorem nb_nodup (fb : List S54) (b : Nat) : (nb fb b).Nodup := by
  unfold nb nxS
  split
  · simp
  · split
    · split
      · simp
      · rename_i h
        simp
        exact fun e => h e.symm
    · simp
theorem nb_len (fb : List S54) (b : Nat) : (nb fb b).length ≤ 2 := nxS_len _
/-- the blocks below i that go to n -/
def ah (fb : List S54) (n : Nat) : Nat → List Int
  | 0 => []
  | i + 1 => ah fb n i ++ (if (n : Int) ∈ nb fb i then [(i : Int)] else [])
theorem ah_len (fb : List S54) (n : Nat) : ∀ i, (ah fb n i).length ≤ i
  | 0 => Nat.le_refl _
  | i + 1 => by
    have := ah_len fb n i
    rw [ah, List.length_append]
    split <;> simp <;> omega
/-- rows within the round of block i, when j of its next ones were looked at -/
def Rows (fb : List S54) (i j : Nat) (x : List (List Int)) : Prop := x.length = fb.length ∧ ∀ n, n < fb.length → x.getD n [] = ah fb n i ++ (if (n : Int) ∈ (nb fb i).take j then [(i : Int)] else [])
theorem rows_l0 (a0 : Int) (fb : List S54) (hN : fb.length ≤ 60) : ∀ (d i : Nat) (x : List (List Int)), d + i = fb.length → Rows fb i 0 x → EvP (fun k => cfg_Ahead.l0 k x fb (fb.length : Int) (i : Int) a0 fb) (fun y => y.length = fb.length ∧ ∀ n, n < fb.length → y.getD n [] = ah fb n fb.length) := by
  intro d
  induction d with
  | zero =>
    intro i x hd hx
    have hi : i = fb.length := by omega
    subst hi
    refine evp_step (f := fun _ => some x) (fun k => ?_) (evp_now x ⟨hx.1, fun n hn => by rw [hx.2 n hn]; simp⟩)
    show cfg_Ahead.l0 (k + 1) x fb (fb.length : Int) (fb.length : Int) a0 fb = _
    rw [cfg_Ahead.l0, if_neg (Int.lt_irrefl _)]
  | succ d ih =>
    intro i x hd hx
    have hi : i < fb.length := by omega
    have g1 : (i : Int) < (fb.length : Int) := by omega
    have hn2 := nb_len fb i
    have inner : ∀ (e j : Nat) (x : List (List Int)), e + j = (nb fb i).length → Rows fb i j x → EvP (fun k => cfg_Ahead.l1 k x (i : Int) fb (fb.length : Int) (i : Int) (nb fb i) ((nb fb i).length : Int) (j : Int) a0 fb) (fun y => y.length = fb.length ∧ ∀ n, n < fb.length → y.getD n [] = ah fb n fb.length) := by
      intro e
      induction e with
      | zero =>
        intro j x he hx
        have hj : j = (nb fb i).length := by omega
        subst hj
        refine evp_step (f := fun k => cfg_Ahead.l0 k x fb (fb.length : Int) ((i + 1 : Nat) : Int) a0 fb) (fun k => ?_) (ih (i + 1) x (by omega) ⟨hx.1, fun n hn => ?_⟩)
        · show cfg_Ahead.l1 (k + 1) x (i : Int) fb (fb.length : Int) (i : Int) (nb fb i) ((nb fb i).length : Int) ((nb fb i).length : Int) a0 fb = _
          rw [cfg_Ahead.l1, if_neg (Int.lt_irrefl _), w_nat i (by omega)]
        · rw [hx.2 n hn, List.take_length, List.take_zero, if_neg (show ¬ (n : Int) ∈ ([] : List Int) by simp), List.append_nil, ah]
      | succ e ih2 =>
        intro j x he hx
        have hj : j < (nb fb i).length := by omega
        have g3 : (j : Int) < ((nb fb i).length : Int) := by omega
        have hr := rd_nat (nb fb i) j hj
        obtain ⟨v, hv⟩ : ∃ v, (nb fb i)[j] = v := ⟨_, rfl⟩
        have htk : (nb fb i).take (j + 1) = (nb fb i).take j ++ [v] := by rw [List.take_succ_eq_append_getElem hj, hv]
        have hnd : v ∉ (nb fb i).take j := fun h => by
          have := nb_nodup fb i
          rw [← List.take_append_drop (j + 1) (nb fb i), htk, List.append_assoc] at this
          exact (List.nodup_append.1 this).2.2 v h v (by simp) rfl
        rw [hv] at hr
        by_cases hth : 0 ≤ v ∧ v < (fb.length : Int)
        · obtain ⟨v0, v1⟩ := hth
          have ht : cfg_there.f a0 fb v = some true := by unfold cfg_there.f; rw [if_pos v0, decide_eq_true v1]
          obtain ⟨m, rfl⟩ : ∃ m : Nat, v = m := ⟨v.toNat, by omega⟩
          have hm : m < fb.length := by omega
          have v2 : (m : Int) < (x.length : Int) := by rw [hx.1]; exact v1
          have hml : m < x.length := by omega
          have hrow : rd_L1 x (m : Int) = ah fb m i := by
            show x.getD (m : Int).toNat [] = _
            rw [Int.toNat_natCast, hx.2 m hm, if_neg hnd, List.append_nil]
          have hl := ah_len fb m i
          have g4 : (ah fb m i).length < 17592186044416 := by omega
          refine evp_step (f := fun k => cfg_Ahead.l1 k (x.set m (ah fb m i ++ [(i : Int)])) (i : Int) fb (fb.length : Int) (i : Int) (nb fb i) ((nb fb i).length : Int) ((j + 1 : Nat) : Int) a0 fb) (fun k => ?_) (ih2 (j + 1) _ (by omega) ⟨by rw [List.length_set]; exact hx.1, fun n hn => ?_⟩)
          · show cfg_Ahead.l1 (k + 1) x (i : Int) fb (fb.length : Int) (i : Int) (nb fb i) ((nb fb i).length : Int) (j : Int) a0 fb = _
            rw [cfg_Ahead.l1, if_pos g3, if_pos (Int.natCast_nonneg j), if_pos g3, hr, ht, Option.bind_some, if_pos rfl, if_pos v0, if_pos v2, hrow, if_pos g4, Int.toNat_natCast, w_nat j (by omega)]
          · by_cases e : n = m
            · subst e
              rw [List.getD_eq_getElem?_getD, List.getElem?_set_self hml, Option.getD_some, htk, if_pos (by simp)]
            · rw [List.getD_eq_getElem?_getD, List.getElem?_set_ne (fun h => e h.symm), ← List.getD_eq_getElem?_getD, hx.2 n hn, htk]
              have : ((n : Int) ∈ (nb fb i).take j ++ [(m : Int)]) ↔ ((n : Int) ∈ (nb fb i).take j) := by
                rw [List.mem_append, List.mem_singleton]
                exact ⟨fun h => h.elim id (fun h => absurd (Int.ofNat.inj h) e), .inl⟩
              simp only [this]
        · have ht : cfg_there.f a0 fb v = some false := by
            unfold cfg_there.f
            by_cases v0 : v ≥ 0
            · rw [if_pos v0, decide_eq_false (by omega)]
            · rw [if_neg v0]
          refine evp_step (f := fun k => cfg_Ahead.l1 k x (i : Int) fb (fb.length : Int) (i : Int) (nb fb i) ((nb fb i).length : Int) ((j + 1 : Nat) : Int) a0 fb) (fun k => ?_) (ih2 (j + 1) x (by omega) ⟨hx.1, fun n hn => ?_⟩)
          · show cfg_Ahead.l1 (k + 1) x (i : Int) fb (fb.length : Int) (i : Int) (nb fb i) ((nb fb i).length : Int) (j : Int) a0 fb = _
            rw [cfg_Ahead.l1, if_pos g3, if_pos (Int.natCast_nonneg j), if_pos g3, hr, ht, Option.bind_some, if_neg (by decide), w_nat j (by omega)]
          · rw [hx.2 n hn, htk]
            have : ((n : Int) ∈ (nb fb i).take j ++ [v]) ↔ ((n : Int) ∈ (nb fb i).take j) := by
              rw [List.mem_append, List.mem_singleton]
              exact ⟨fun h => h.elim id (fun h => absurd ⟨by omega, by omega⟩ hth), .inl⟩
            simp only [this]
    refine evp_step (f := fun k => cfg_Ahead.l1 k x (i : Int) fb (fb.length : Int) (i : Int) (nb fb i) ((nb fb i).length : Int) ((0 : Nat) : Int) a0 fb) (fun k => ?_) (inner (nb fb i).length 0 x rfl hx)
    show cfg_Ahead.l0 (k + 1) x fb (fb.length : Int) (i : Int) a0 fb = _
    rw [cfg_Ahead.l0, if_pos g1, if_pos (Int.natCast_nonneg i), if_pos g1, cfg_next_is, Option.bind_some]
    rfl
theorem ahead_ev (a0 : Int) (fb : List S54) (hN : fb.length ≤ 60) : EvP (fun k => cfg_Ahead.f k a0 fb) (fun y => y.length = fb.length ∧ ∀ n, n < fb.length → y.getD n [] = ah fb n fb.length) := by
  obtain ⟨y, hy, he⟩ := rows_l0 a0 fb hN fb.length 0 (List.replicate fb.length []) rfl ⟨by simp, fun n hn => by simp [ah, List.getD_eq_getElem?_getD, hn]⟩
  refine ⟨y, hy, Ev.congr (fun k => ?_) he⟩
  show cfg_Ahead.f k a0 fb = _
  unfold cfg_Ahead.f
  rw [if_pos (Int.natCast_nonneg _), if_pos (by rw [Int.toNat_natCast]; omega), Int.toNat_natCast]; rfl

theorem nb_nbOf (fb : List S54) (b : Nat) : nbOf fb b = nb fb b := rfl
theorem ah_mem (fb : List S54) (n : Nat) : ∀ (i : Nat) (p : Int), p ∈ ah fb n i ↔ ∃ q : Nat, p = (q : Int) ∧ q < i ∧ (n : Int) ∈ nb fb q
  | 0, p => by simp [ah]
  | i + 1, p => by
    rw [ah, List.mem_append, ah_mem fb n i p]
    constructor
    · rintro (⟨q, rfl, hq, hm⟩ | h)
      · exact ⟨q, rfl, by omega, hm⟩
      · split at h
        · rename_i hm
          exact ⟨i, List.mem_singleton.1 h, by omega, hm⟩
        · cases h
    · rintro ⟨q, rfl, hq, hm⟩
      by_cases e : q = i
      · subst e; right; rw [if_pos hm]; simp
      · exact .inl ⟨q, rfl, by omega, hm⟩
/-- the ways up that a row of numbers holds -/
def upOf (ab : List Int) : Nat → Option Nat := fun x => if 0 ≤ ab.getD x (-1) then some (ab.getD x (-1)).toNat else none
theorem upOf_some {ab : List Int} {x u : Nat} (h : upOf ab x = some u) : x < ab.length ∧ rd ab (x : Int) = (u : Int) := by
  unfold upOf at h
  split at h
  · rename_i h0
    obtain rfl := Option.some.inj h
    have hx : x < ab.length := by
      rcases Nat.lt_or_ge x ab.length with h | h
      · exact h
      · rw [List.getD_eq_getElem?_getD, List.getElem?_eq_none h] at h0; simp at h0
    refine ⟨hx, ?_⟩
    rw [rd_getD, Int.toNat_of_nonneg h0, List.getD_eq_getElem?_getD, List.getD_eq_getElem?_getD, List.getElem?_eq_getElem hx]
    rfl
  · cases h
theorem upOf_none {ab : List Int} {x : Nat} (hx : x < ab.length) (h : upOf ab x = none) : rd ab (x : Int) < 0 := by
  unfold upOf at h
  split at h
  · cases h
  · rename_i h0
    rw [rd_getD, List.getD_eq_getElem?_getD, List.getElem?_eq_getElem hx]
    rw [List.getD_eq_getElem?_getD, List.getElem?_eq_getElem hx] at h0
    simp only [Option.getD_some] at h0 ⊢
    omega
theorem upOf_set {ab : List Int} {b c : Nat} (hb : b < ab.length) : upOf (ab.set b (c : Int)) = DomTree.upd (upOf ab) b c := by
  funext x
  unfold upOf DomTree.upd
  by_cases e : x = b
  · subst e
    rw [if_pos rfl, List.getD_eq_getElem?_getD, List.getElem?_set_self hb]
    simp
  · rw [if_neg e, List.getD_eq_getElem?_getD, List.getElem?_set_ne (fun h => e h.symm), ← List.getD_eq_getElem?_getD]
/-- the places as the program holds them -/
def PL (fb : List S54) (XS : List Nat) : List Int := placed (ints XS.reverse) 0 (List.replicate fb.length (-1))
section
variable {fb : List S54} {XS : List Nat} (h : Ord fb XS)
include h
theorem PL_len : (PL fb XS).length = fb.length := by unfold PL; rw [placed_len, List.length_replicate]
theorem PL_at (x : Nat) (hx : x < fb.length) : rd (PL fb XS) (x : Int) = if x ∈ XS then ((plOf XS x : Nat) : Int) else -1 := by
  unfold PL
  rw [rd_getD, placed_at XS.reverse 0 _ (nd_rev h.nd) (fun b hb => by rw [List.length_replicate]; exact h.lt b (List.mem_reverse.1 hb)) x 0]
  by_cases hm : x ∈ XS
  · rw [if_pos (List.mem_reverse.2 hm), if_pos hm]; unfold plOf; simp
  · rw [if_neg (fun h => hm (List.mem_reverse.1 h)), if_neg hm, List.getD_eq_getElem?_getD, List.getElem?_replicate, if_pos hx]; rfl
/-- where two ways up meet, by the program -/
theorem l1_meet {ab : List Int} (hab : ab.length = fb.length) (i : Inv (· ∈ XS) (plOf XS) (EdOf fb XS) (upOf ab)) : ∀ (k a b c : Nat), (∃ v, upOf ab a = some v) → (∃ v, upOf ab b = some v) → meet (plOf XS) (upOf ab) k a b = some c → common_l1 ab (PL fb XS) k (a : Int) (b : Int) = some (c : Int) := by
  intro k
  induction k with
  | zero => intro a b c _ _ hm; cases hm
  | succ k ih =>
    intro a b c ha hb hm
    obtain ⟨va, hva⟩ := ha
    obtain ⟨vb, hvb⟩ := hb
    have haX := (i.r a va hva).1
    have hbX := (i.r b vb hvb).1
    have haN := h.lt a haX
    have hbN := h.lt b hbX
    have hl := PL_len h
    rw [meet] at hm
    rw [common_l1]
    by_cases e : a = b
    · subst e
      rw [if_pos rfl] at hm
      obtain rfl := Option.some.inj hm
      rw [if_pos rfl]
    · rw [if_neg e] at hm
      rw [if_neg (show ¬ ((a : Int) = (b : Int)) from fun e2 => e (by omega)), if_pos ⟨by omega, by rw [hl]; omega, by omega, by rw [hl]; omega, by rw [hl, hab]; exact Nat.le_refl _⟩, PL_at h a haN, PL_at h b hbN, if_pos haX, if_pos hbX]
      have non : ∀ x v, upOf ab x = some v → ∃ v', upOf ab v = some v' := fun x v hx => by
        by_cases x0 : x = 0
        · subst x0; obtain rfl := Option.some.inj (i.z.symm.trans hx); exact ⟨0, i.z⟩
        · exact i.on x v x0 hx
      by_cases hp : plOf XS b < plOf XS a
      · rw [if_pos hp, hva, Option.bind_some] at hm
        rw [if_pos (by omega), (upOf_some hva).2]
        exact ih va b c (non a va hva) ⟨vb, hvb⟩ hm
      · rw [if_neg hp, hvb, Option.bind_some] at hm
        rw [if_neg (by omega), (upOf_some hvb).2]
        exact ih a vb c ⟨va, hva⟩ (non b vb hvb) hm
def encO : Option Nat → Int
  | none => -1
  | some c => (c : Int)
omit h in
/-- those that are met -/
def keep (XS : List Nat) (l : List Int) : List Nat := (l.map Int.toNat).filter (fun x => decide (x ∈ XS))
theorem l0_common {ab : List Int} (hab : ab.length = fb.length) (i : Inv (· ∈ XS) (plOf XS) (EdOf fb XS) (upOf ab)) (K : Nat) (hK : 2 * XS.length < K) : ∀ (l : List Int) (pre : List Nat) (r : Option Nat), (∀ x ∈ l, ∃ q : Nat, x = (q : Int) ∧ q < fb.length) → Common (upOf ab) pre r →
    ∃ r', common_l0 K ab (PL fb XS) l (encO r) = some (encO r') ∧ Common (upOf ab) (pre ++ keep XS l) r' := by
  intro l
  induction l with
  | nil => intro pre r _ hc; exact ⟨r, rfl, by simpa [keep] using hc⟩
  | cons x l ih =>
    intro pre r hl hc
    obtain ⟨p, rfl, hp⟩ := hl x List.mem_cons_self
    have hl' : ∀ x ∈ l, ∃ q : Nat, x = (q : Int) ∧ q < fb.length := fun y hy => hl y (List.mem_cons_of_mem _ hy)
    have hlen := PL_len h
    rw [common_l0, if_pos ⟨by omega, by rw [hlen]; omega, by rw [hlen, hab]; exact Nat.le_refl _⟩, PL_at h p hp]
    by_cases hpX : p ∈ XS
    · have hk : keep XS ((p : Int) :: l) = p :: keep XS l := by unfold keep; rw [List.map_cons, Int.toNat_natCast, List.filter_cons_of_pos (by simpa using hpX)]
      rw [hk, if_pos hpX]
      have happ : pre ++ p :: keep XS l = (pre ++ [p]) ++ keep XS l := by rw [List.append_assoc]; rfl
      rw [happ]
      cases hu : upOf ab p with
      | none =>
        rw [if_pos (.inr (upOf_none (by omega) hu))]
        exact ih (pre ++ [p]) r hl' (hc.skip hu)
      | some v =>
        have hv := (upOf_some hu).2
        rw [if_neg (by rw [hv]; rintro (h | h) <;> omega)]
        have hpv : ∃ v, upOf ab p = some v := ⟨v, hu⟩
        cases r with
        | none =>
          obtain ⟨K', rfl⟩ : ∃ K', K = K' + 1 := ⟨K - 1, by omega⟩
          rw [if_pos (show encO none < 0 by decide), common_l1, if_pos rfl, Option.bind_some]
          exact ih (pre ++ [p]) (some p) hl' (hc.first hpv)
        | some a =>
          have hav := hc.on a rfl
          have haX := (i.r a _ hav.choose_spec).1
          obtain ⟨c, h1, h2, h3, h4⟩ := meet_is (gr_is h) i K a p (by have := plOf_lt haX; have := plOf_lt hpX; omega) hav hpv
          rw [if_neg (show ¬ encO (some a) < 0 by show ¬ ((a : Int) < 0); omega), show encO (some a) = (a : Int) from rfl, l1_meet h hab i K a p c hav hpv h1, Option.bind_some]
          exact ih (pre ++ [p]) (some c) hl' (hc.next i hpv h2 h3 h4)
    · have hk : keep XS ((p : Int) :: l) = keep XS l := by unfold keep; rw [List.map_cons, Int.toNat_natCast, List.filter_cons_of_neg (by simpa using hpX)]
      rw [hk, if_neg hpX, if_pos (.inl (by decide))]
      exact ih pre r hl' hc
end

theorem idx_of_get : ∀ (L : List Nat) (i b : Nat), L.Nodup → L[i]? = some b → L.idxOf b = i
  | [], i, b, _, h => by simp at h
  | x :: L, 0, b, _, h => by
    obtain rfl : x = b := by simpa using h
    exact List.idxOf_cons_self
  | x :: L, i + 1, b, hnd, h => by
    have h' : L[i]? = some b := by simpa using h
    have hm : b ∈ L := List.mem_of_getElem? h'
    have hne : x ≠ b := fun e => (List.nodup_cons.1 hnd).1 (e ▸ hm)
    rw [idx_ne hne, idx_of_get L i b (List.nodup_cons.1 hnd).2 h']
theorem keep_mem {fb : List S54} {XS : List Nat} {b : Nat} (hb : b < fb.length) (hX : ∀ x ∈ XS, x < fb.length) (p : Nat) : p ∈ keep XS (ah fb b fb.length) ↔ EdOf fb XS p b := by
  unfold keep EdOf
  rw [List.mem_filter, List.mem_map]
  constructor
  · rintro ⟨⟨x, hx, rfl⟩, hp⟩
    obtain ⟨q, rfl, hq, hm⟩ := (ah_mem fb b _ x).1 hx
    rw [Int.toNat_natCast] at hp ⊢
    exact ⟨by simpa using hp, hb, hm⟩
  · rintro ⟨hp, _, hm⟩
    exact ⟨⟨(p : Int), (ah_mem fb b _ _).2 ⟨p, rfl, hX p hp, hm⟩, Int.toNat_natCast p⟩, by simpa using hp⟩
section
variable {fb : List S54} {XS : List Nat} (h : Ord fb XS) {y : List (List Int)} (hy : y.length = fb.length ∧ ∀ n, n < fb.length → y.getD n [] = ah fb n fb.length) {K : Nat} (hK : 2 * XS.length < K)
include h hy hK
theorem gpass_ok {k : Nat} {up0 : Nat → Option Nat} (g0 : ∀ x, x ∈ XS → Go.Proofs.Ytemclhndmcjmmaa.DomTree.Good (EdOf fb XS) up0 k x) : ∀ (l : List Nat) (ab : List Int) (ag : Bool) (n : Nat), ab.length = fb.length → Mid (· ∈ XS) (plOf XS) (EdOf fb XS) k n up0 (upOf ab) → (∀ d x, AvL (EdOf fb XS) d k x → ∃ v, upOf ab x = some v) →
    (∀ i b, l[i]? = some b → b ∈ XS ∧ b ≠ 0 ∧ plOf XS b = n + i) → l.Nodup →
    ∃ ab' ag', gpass K (PL fb XS) y (ints l) ab ag = some (ab', ag') ∧ ab'.length = fb.length ∧ Pass (fun b => keep XS (ah fb b fb.length)) (upOf ab) l (upOf ab') ∧ (∀ x, x ∉ l → upOf ab' x = upOf ab x) ∧ (ag = true → ag' = true) ∧ (ag' = true → ag = true ∨ upOf ab' ≠ upOf ab) ∧ (ag' = false → ab' = ab) ∧ ((∀ v ∈ ab, -1 ≤ v) → ∀ v ∈ ab', -1 ≤ v) := by
  intro l
  induction l with
  | nil =>
    intro ab ag n hab m _ _ _
    exact ⟨ab, ag, rfl, hab, .nil _, fun _ _ => rfl, id, .inl, fun _ => rfl, id⟩
  | cons b l ih =>
    intro ab ag n hab m all0 hl hnd
    obtain ⟨hb, hb0, hn⟩ := hl 0 b rfl
    have hbN := h.lt b hb
    have i := m.inv
    obtain ⟨r, h1, h2⟩ := l0_common h hab i K hK (ah fb b fb.length) [] none (fun x hx => by obtain ⟨q, e, hq, _⟩ := (ah_mem fb b _ x).1 hx; exact ⟨q, e, hq⟩) Common.nil
    rw [List.nil_append] at h2
    have hmem := keep_mem (XS := XS) hbN h.lt
    obtain ⟨p, hpe, hpb⟩ := (gr_is h).par b hb hb0
    have hpv := (m.done p hpe.1 (by omega)).1
    cases r with
    | none =>
      have := h2.non rfl p ((hmem p).2 hpe)
      obtain ⟨v, hv⟩ := hpv
      rw [this] at hv; cases hv
    | some c =>
      have m1 := m.next (gr_is h) g0 all0 hb hb0 (by omega) hmem h2
      have hrow : rd_L1 y (b : Int) = ah fb b fb.length := by unfold rd_L1; rw [Int.toNat_natCast]; exact hy.2 b hbN
      have hcf : common_f K ab (PL fb XS) (rd_L1 y (b : Int)) = some (c : Int) := by unfold common_f; rw [hrow]; exact h1
      have hstep : gpass K (PL fb XS) y (ints (b :: l)) ab ag = if (c : Int) = rd ab (b : Int) then gpass K (PL fb XS) y (ints l) ab ag else gpass K (PL fb XS) y (ints l) (ab.set b (c : Int)) true := by
        show gpass K (PL fb XS) y ((b : Int) :: ints l) ab ag = _
        rw [gpass, hcf, Option.bind_some, Int.toNat_natCast]
      have hbl : b ∉ l := (List.nodup_cons.1 hnd).1
      have hl' : ∀ i x, l[i]? = some x → x ∈ XS ∧ x ≠ 0 ∧ plOf XS x = n + 1 + i := fun i x hx => by
        obtain ⟨a1, a2, a3⟩ := hl (i + 1) x hx; exact ⟨a1, a2, by omega⟩
      have all1 : ∀ d x, AvL (EdOf fb XS) d k x → ∃ v, DomTree.upd (upOf ab) b c x = some v := fun d x hx => by
        by_cases e : x = b
        · subst e; exact ⟨c, upd_self _ _⟩
        · rw [upd_ne e]; exact all0 d x hx
      by_cases he : (c : Int) = rd ab (b : Int)
      · have hup : DomTree.upd (upOf ab) b c = upOf ab := by
          funext x
          by_cases e : x = b
          · subst e
            rw [upd_self]
            unfold upOf
            rw [rd_getD] at he
            have hg : ab.getD x (-1) = (c : Int) := by
              rw [he, List.getD_eq_getElem?_getD, List.getD_eq_getElem?_getD, List.getElem?_eq_getElem (by omega : x < ab.length)]; rfl
            rw [hg, if_pos (by omega), Int.toNat_natCast]
          · exact upd_ne e
        rw [hup] at m1 all1
        obtain ⟨ab', ag', a1, a2, a3, a4, a5, a6, a7, a8⟩ := ih ab ag (n + 1) hab m1 all1 hl' (List.nodup_cons.1 hnd).2
        refine ⟨ab', ag', by rw [hstep, if_pos he]; exact a1, a2, .cons h2 (by rw [hup]; exact a3), fun x hx => a4 x (fun hh => hx (List.mem_cons_of_mem _ hh)), a5, a6, a7, a8⟩
      · have hset : upOf (ab.set b (c : Int)) = DomTree.upd (upOf ab) b c := upOf_set (by omega)
        rw [← hset] at m1 all1
        obtain ⟨ab', ag', a1, a2, a3, a4, a5, a6, a7, a8⟩ := ih (ab.set b (c : Int)) true (n + 1) (by rw [List.length_set]; exact hab) m1 all1 hl' (List.nodup_cons.1 hnd).2
        have hag := a5 rfl
        refine ⟨ab', ag', by rw [hstep, if_neg he]; exact a1, a2, .cons h2 (by rw [← hset]; exact a3), fun x hx => ?_, fun _ => hag, fun _ => .inr fun e => ?_, fun e => (by rw [hag] at e; cases e), fun hv => a8 fun v hv2 => ?_⟩
        · have hxb : x ≠ b := fun e => hx (e ▸ List.mem_cons_self)
          rw [a4 x (fun hh => hx (List.mem_cons_of_mem _ hh)), hset, upd_ne hxb]
        · have h3 := a4 b hbl
          rw [e, hset, upd_self] at h3
          exact he (upOf_some h3).2.symm
        · rcases List.mem_or_eq_of_mem_set hv2 with h | h
          · exact hv v h
          · rw [h]; omega
end
theorem gloop_mono1 (k : Nat) (pl : List Int) (ah : List (List Int)) (ords : List Int) : ∀ (n : Nat) (ab : List Int), LeO (gloop k pl ah ords n ab) (gloop (k + 1) pl ah ords n ab) := by
  intro n
  induction n with
  | zero => intro ab; exact LeO.none _
  | succ n ih =>
    intro ab
    rw [gloop, gloop]
    exact LeO.bind (gpass_mono k pl ah ords ab false) (fun r => LeO.ite (ih _) (LeO.refl _))
/-- what the rounds leave -/
structure Tree (fb : List S54) (XS : List Nat) (ab : List Int) : Prop where
  len : ab.length = fb.length
  inv : Inv (· ∈ XS) (plOf XS) (EdOf fb XS) (upOf ab)
  on : ∀ x, x ∈ XS → ∃ v, upOf ab x = some v
  ge : ∀ v ∈ ab, -1 ≤ v
  dom : ∀ d b, b ∈ XS → d ∈ XS → (Anc (upOf ab) d b ↔ ¬ Av (EdOf fb XS) d b)
theorem gloop_ok {fb : List S54} {XS : List Nat} (h : Ord fb XS) {y : List (List Int)} (hy : y.length = fb.length ∧ ∀ n, n < fb.length → y.getD n [] = ah fb n fb.length) :
    ∃ ab, Tree fb XS ab ∧ Ev (fun k => gloop k (PL fb XS) y (ints XS.reverse).tail k ((List.replicate fb.length (-1)).set 0 0)) ab := by
  obtain ⟨o, ho⟩ := h.last
  have g := gr_is h
  have h0X : 0 ∈ XS := g.r0
  have hNpos := h.lt 0 h0X
  obtain ⟨K, hK⟩ : ∃ K, 2 * XS.length < K := ⟨2 * XS.length + 1, by omega⟩
  obtain ⟨ot, hot⟩ : ∃ ot, o.reverse = ot := ⟨_, rfl⟩
  have hrev : XS.reverse = 0 :: ot := by rw [ho, List.reverse_append, hot]; rfl
  have htail : (ints XS.reverse).tail = ints ot := by rw [hrev]; rfl
  have hndr : (0 :: ot).Nodup := by rw [← hrev]; exact nd_rev h.nd
  have hnd := (List.nodup_cons.1 hndr).2
  have hl : ∀ i b, ot[i]? = some b → b ∈ XS ∧ b ≠ 0 ∧ plOf XS b = 1 + i := fun i b hb => by
    have hm : b ∈ ot := List.mem_of_getElem? hb
    have hne : b ≠ 0 := fun e => (List.nodup_cons.1 hndr).1 (e ▸ hm)
    refine ⟨List.mem_reverse.1 (by rw [hrev]; exact List.mem_cons_of_mem _ hm), hne, ?_⟩
    unfold plOf
    rw [hrev, idx_of_get (0 :: ot) (i + 1) b hndr (by simpa using hb)]; omega
  have hm : ∀ x, x ∈ XS → plOf XS x < 1 + ot.length := fun x hx => by
    have := plOf_lt hx
    have e : XS.reverse.length = ot.length + 1 := by rw [hrev]; rfl
    rw [List.length_reverse] at e
    omega
  have hprs : ∀ b, b ∈ XS → ∀ p, p ∈ keep XS (ah fb b fb.length) ↔ EdOf fb XS p b := fun b hb => keep_mem (h.lt b hb) h.lt
  obtain ⟨F, hF⟩ : ∃ F : List Int → List Int, F = fun ab => ((gpass K (PL fb XS) y (ints ot) ab false).getD (ab, false)).1 := ⟨_, rfl⟩
  obtain ⟨ab0, hab0⟩ : ∃ ab0, (List.replicate fb.length (-1 : Int)).set 0 0 = ab0 := ⟨_, rfl⟩
  let seq : Nat → List Int := fun j => Nat.rec ab0 (fun _ x => F x) j
  have hs0 : seq 0 = ab0 := rfl
  have hsS : ∀ j, seq (j + 1) = F (seq j) := fun j => rfl
  clear_value seq
  have hup0 : upOf (seq 0) = up0 := by
    rw [hs0, ← hab0]
    funext x
    unfold upOf up0
    by_cases e : x = 0
    · subst e
      rw [List.getD_eq_getElem?_getD, List.getElem?_set_self (by simpa using hNpos)]; rfl
    · rw [if_neg e, List.getD_eq_getElem?_getD, List.getElem?_set_ne (fun h => e h.symm), List.getElem?_replicate]
      split <;> rfl
  have hlen0 : (seq 0).length = fb.length := by rw [hs0, ← hab0, List.length_set, List.length_replicate]
  have hge0 : ∀ v ∈ seq 0, -1 ≤ v := fun v hv => by
    rw [hs0, ← hab0] at hv
    rcases List.mem_or_eq_of_mem_set hv with h | h
    · rw [(List.mem_replicate.1 h).2]; decide
    · rw [h]; decide
  have key : ∀ j, ((seq j).length = fb.length ∧ ∀ v ∈ seq j, -1 ≤ v) ∧ ∀ i, i < j → Pass (fun b => keep XS (ah fb b fb.length)) (upOf (seq i)) ot (upOf (seq (i + 1))) ∧ ∃ ag, gpass K (PL fb XS) y (ints ot) (seq i) false = some (seq (i + 1), ag) ∧ (ag = true → upOf (seq (i + 1)) ≠ upOf (seq i)) ∧ (ag = false → seq (i + 1) = seq i) := by
    intro j
    induction j with
    | zero => exact ⟨⟨hlen0, hge0⟩, fun i hi => by omega⟩
    | succ j ih =>
      obtain ⟨⟨hlen, hge⟩, hp⟩ := ih
      obtain ⟨i1, i2, i3⟩ := rounds g hprs hl hm (fun j => upOf (seq j)) hup0 j (fun i hi => (hp i hi).1)
      obtain ⟨ab', ag', a1, a2, a3, a4, a5, a6, a7, a8⟩ := gpass_ok h hy hK i2 ot (seq j) false 1 hlen (Mid.start (k := j) g i1) (fun d x hx => by
        rcases Nat.eq_zero_or_pos j with e | e
        · subst e
          cases hx
          exact ⟨0, i1.z⟩
        · exact i3 e x (hx.r g)) hl hnd
      have hnext : seq (j + 1) = ab' := by rw [hsS, hF]; simp only [a1, Option.getD_some]
      refine ⟨⟨by rw [hnext]; exact a2, by rw [hnext]; exact a8 hge⟩, fun i hi => ?_⟩
      by_cases e : i = j
      · subst e
        rw [hnext]
        exact ⟨a3, ag', a1, fun h => (a6 h).elim (fun h => by cases h) id, a7⟩
      · exact hp i (by omega)
  have hpass := fun j => ((key (j + 1)).2 j (by omega)).1
  obtain ⟨j, hj⟩ := ends g (N := fb.length) h.lt hprs hl hm (fun j => upOf (seq j)) hup0 hpass
  have fin : ∀ (d i : Nat), i + d = j → ∃ s, i ≤ s ∧ s ≤ j ∧ seq (s + 1) = seq s ∧ ∀ n, d < n → gloop K (PL fb XS) y (ints ot) n (seq i) = some (seq (s + 1)) := by
    intro d
    induction d with
    | zero =>
      intro i hi
      obtain rfl : i = j := by omega
      obtain ⟨_, ag, b1, b2, b3⟩ := (key (i + 1)).2 i (by omega)
      cases ag with
      | true => exact absurd hj (b2 rfl)
      | false =>
        refine ⟨i, Nat.le_refl _, Nat.le_refl _, b3 rfl, fun n hn => ?_⟩
        obtain ⟨n, rfl⟩ : ∃ m, n = m + 1 := ⟨n - 1, by omega⟩
        rw [gloop, b1, Option.bind_some]; rfl
    | succ d ih =>
      intro i hi
      obtain ⟨_, ag, b1, b2, b3⟩ := (key (i + 1)).2 i (by omega)
      cases ag with
      | true =>
        obtain ⟨s, c1, c2, c3, c4⟩ := ih (i + 1) (by omega)
        refine ⟨s, by omega, c2, c3, fun n hn => ?_⟩
        obtain ⟨n, rfl⟩ : ∃ m, n = m + 1 := ⟨n - 1, by omega⟩
        rw [gloop, b1, Option.bind_some]
        exact c4 n (by omega)
      | false =>
        refine ⟨i, Nat.le_refl _, by omega, b3 rfl, fun n hn => ?_⟩
        obtain ⟨n, rfl⟩ : ∃ m, n = m + 1 := ⟨n - 1, by omega⟩
        rw [gloop, b1, Option.bind_some]; rfl
  obtain ⟨s, c1, c2, c3, c4⟩ := fin j 0 (by omega)
  obtain ⟨f1, f2, f3⟩ := fixed g (N := fb.length) h.lt hprs hl hm (fun j => upOf (seq j)) hup0 s (fun i _ => hpass i) (by show upOf (seq (s + 1)) = upOf (seq s); rw [c3])
  refine ⟨seq s, ⟨(key s).1.1, f1, f2, (key s).1.2, f3⟩, K + j + 1, fun k hk => ?_⟩
  have h1 := c4 k (by omega)
  rw [hs0] at h1
  rw [htail, ← c3]
  show gloop k (PL fb XS) y (ints ot) k ((List.replicate fb.length (-1)).set 0 0) = _
  rw [hab0]
  exact at_rounds (g := fun q => gloop q (PL fb XS) y (ints ot) k ab0) (fun q => gloop_mono1 q _ _ _ _ _) (show K ≤ k by omega) h1
theorem grown_ev (a0 : Int) {fb : List S54} {XS : List Nat} (h : Ord fb XS) (hN : fb.length ≤ 60) : ∃ ab, Tree fb XS ab ∧ Ev (fun k => dom_grown.f k a0 fb) (ab.set 0 (-1), PL fb XS) := by
  obtain ⟨y, hy, hye⟩ := ahead_ev a0 fb hN
  obtain ⟨ab, hT, hE⟩ := gloop_ok h hy
  refine ⟨ab, hT, ?_⟩
  have hne : XS ≠ [] := by obtain ⟨o, ho⟩ := h.last; rw [ho]; simp
  obtain ⟨K1, e1⟩ := hye
  obtain ⟨K2, e2⟩ := hE
  refine ⟨K1 + K2, fun k hk => ?_⟩
  dsimp only at e1 e2 ⊢
  unfold dom_grown.f
  rw [h.left, Option.bind_some, if_neg hne, e1 k (by omega), Option.bind_some, if_pos hy.1]
  have := e2 k (by omega)
  unfold PL at this ⊢
  rw [this]; rfl
end Go.Proofs.Ytemclhndmcjmmaa.BaseDomEdges
