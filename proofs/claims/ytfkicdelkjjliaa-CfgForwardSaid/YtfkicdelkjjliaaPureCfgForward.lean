/- Where all that follows stands behind in the program, it stands behind in the order, too. -/
import Derived.Test.YtfkicdelkjjliaaVisCfgForward
set_option linter.unusedVariables false
namespace Go.Proofs.Ytfkicdelkjjliaa.Pure
open Go Go.RowKit Go.Proofs.YtfkicdelkjjliaaW.PrintWords Go.Proofs.YtfkicdelkjjliaaW.PrintLast Go.Proofs.YtfkicdelkjjliaaW.PrintMore Go.Proofs.Ytfkicdelkjjliaa.PCfgForward Go.Proofs.Ytfkicdelkjjliaa.BaseCfgForward

theorem rd_ints (L : List Nat) (t : Nat) (h : t < L.length) : rd (ints L) (t : Int) = ((L[t] : Nat) : Int) := by
  rw [rd_nat _ t (by rw [ints_length]; exact h)]
  unfold ints
  rw [List.getElem_map]
theorem few_is (a0 : Int) (fb : List S34) : hallmarklaw07_few.f a0 fb = some (a0, fb.take 60) := by
  unfold hallmarklaw07_few.f
  by_cases h : (fb.length : Int) > 60
  · rw [if_pos h, if_pos (by omega)]
  · rw [if_neg h, List.take_of_length_le (by omega)]
theorem getD_set (l : List Int) (i n : Nat) (v : Int) (hi : i < l.length) : (l.set i v).getD n 0 = if n = i then v else l.getD n 0 := by
  by_cases h : n = i
  · subst h; rw [if_pos rfl, List.getD_eq_getElem?_getD, List.getElem?_set_self hi]; rfl
  · rw [if_neg h, List.getD_eq_getElem?_getD, List.getElem?_set_ne (fun e => h e.symm), ← List.getD_eq_getElem?_getD]
/-- what follows a block stands before it -/
def Topo (N : Nat) (nb : Nat → List Int) (o : List Nat) : Prop := ∀ p, p < o.length → ∀ n ∈ nb (o.getD p 0), 0 ≤ n → n < (N : Int) → n.toNat ∈ o.take p
theorem topo_snoc {N : Nat} {nb : Nat → List Int} {o : List Nat} {b : Nat} (h : Topo N nb o) (hb : ∀ n ∈ nb b, 0 ≤ n → n < (N : Int) → n.toNat ∈ o) : Topo N nb (o ++ [b]) := by
  intro p hp n hn h0 hN
  rw [List.length_append, List.length_singleton] at hp
  rcases Nat.lt_or_ge p o.length with hlt | hge
  · rw [List.getD_eq_getElem?_getD, List.getElem?_append_left hlt, ← List.getD_eq_getElem?_getD] at hn
    rw [List.take_append_of_le_length (Nat.le_of_lt hlt)]
    exact h p hlt n hn h0 hN
  · have e : p = o.length := by omega
    subst e
    rw [List.getD_eq_getElem?_getD, List.getElem?_append_right (Nat.le_refl _), Nat.sub_self] at hn
    rw [List.take_append_of_le_length (Nat.le_refl _), List.take_length]
    exact hb n hn h0 hN
theorem vis_topo {N : Nat} {nb : Nat → List Int} (hfw : ∀ b, b < N → ∀ n ∈ nb b, (b : Int) < n) {k : Nat} {m m' : List Bool} {o o' : List Nat} {l : List Int} (h : Vis N nb k m o l m' o') : ∀ S : List Nat, m.length = N → MetIs N m o S → (∀ x ∈ o, x < N) → o.Nodup → (∀ x ∈ S, x ∉ o) → (∀ s ∈ S, ∀ n ∈ l, (s : Int) < n) → Topo N nb o → Topo N nb o' := by
  induction h with
  | nil m o => intro S _ _ _ _ _ _ h; exact h
  | skip hn t ih =>
    intro S hm h1 h2 h3 h4 h5 h
    exact ih S hm h1 h2 h3 h4 (fun s hs n hn => h5 s hs n (List.mem_cons_of_mem _ hn)) h
  | visit hn t1 t2 ih1 ih2 =>
    intro S hm h1 h2 h3 h4 h5 h
    rename_i k1 k2 m m1 m' o o1 o' n l
    have hlt : n.toNat < N := by have := hn.1; have := hn.2.1; omega
    have hnm : m.getD n.toNat false = false := hn.2.2
    have hcast : ((n.toNat : Nat) : Int) = n := Int.toNat_of_nonneg hn.1
    have hno : n.toNat ∉ o := fun h => by rw [(h1 _ hlt).2 (.inl h)] at hnm; cases hnm
    have hnS : n.toNat ∉ S := fun h => by rw [(h1 _ hlt).2 (.inr h)] at hnm; cases hnm
    have hm1 : MetIs N (m.set n.toNat true) o (n.toNat :: S) := fun x hx => by
      rw [set_getD m n.toNat x (by omega)]
      by_cases e : x = n.toNat
      · rw [if_pos e]; simp [e]
      · rw [if_neg e, h1 x hx]; simp [e]
    have hl1 : (m.set n.toNat true).length = N := by rw [List.length_set]; exact hm
    have hS1 : ∀ x ∈ n.toNat :: S, x ∉ o := fun x hx => (List.mem_cons.1 hx).elim (fun e => e ▸ hno) (fun h => h4 x h)
    have hfn := hfw n.toNat hlt
    have hlow : ∀ s ∈ n.toNat :: S, ∀ n' ∈ nb n.toNat, (s : Int) < n' := fun s hs n' hn' => by
      have hb := hfn n' hn'
      rcases List.mem_cons.1 hs with e | hs
      · rw [e]; exact hb
      · have := h5 s hs n List.mem_cons_self
        omega
    obtain ⟨a1, a2, a3, a4, a5, a6, a7⟩ := vis_met t1 (n.toNat :: S) hl1 hm1 h2 h3 hS1
    have hlen1 := (vis_len t1 hl1).1
    have hn1 : n.toNat ∉ o1 := a4 _ List.mem_cons_self
    have hm2 : MetIs N m1 (o1 ++ [n.toNat]) S := fun x hx => by
      rw [a1 x hx, List.mem_cons, List.mem_append, List.mem_singleton]
      exact ⟨fun h => h.elim (fun h => .inl (.inl h)) (fun h => h.elim (fun h => .inl (.inr h)) .inr), fun h => h.elim (fun h => h.elim .inl (fun h => .inr (.inl h))) (fun h => .inr (.inr h))⟩
    have ht1 := ih1 (n.toNat :: S) hl1 hm1 h2 h3 hS1 hlow h
    refine ih2 S hlen1 hm2 (fun x hx => (List.mem_append.1 hx).elim (a2 x) (fun h => by rw [List.mem_singleton.1 h]; exact hlt))
      (List.nodup_append.2 ⟨a3, by simp, fun x hx y hy => by rw [List.mem_singleton.1 hy]; exact fun e => hn1 (e ▸ hx)⟩)
      (fun x hx hxo => (List.mem_append.1 hxo).elim (fun h => a4 x (List.mem_cons_of_mem _ hx) h) (fun h => hnS (List.mem_singleton.1 h ▸ hx)))
      (fun s hs n' hn' => h5 s hs n' (List.mem_cons_of_mem _ hn')) (topo_snoc ht1 fun n' hn' h0 hN => ?_)
    have hlt' : n'.toNat < N := by omega
    rcases (a1 _ hlt').1 (a5 n' hn' h0 hN) with h | h
    · exact h
    · have := hlow _ h n' hn'
      omega
/-- the order of blocks that all go on to later ones: what follows a block stands behind it -/
theorem order_topo (fb : List S34) (hN : fb.length ≤ 1099511627776) (hf : fb ≠ []) (hfw : ∀ b, b < fb.length → ∀ n ∈ nbOf fb b, (b : Int) < n) : ∃ o : List Nat, Go.Proofs.Ytfkicdelkjjliaa.PCfgForward.leftOf fb = some (o ++ [0]) ∧ (o ++ [0]).Nodup ∧ (∀ x ∈ o ++ [0], x < fb.length) ∧ Topo fb.length (nbOf fb) (o ++ [0]) ∧ o.length + 1 ≤ fb.length := by
  have hpos : 0 < fb.length := List.length_pos_iff.2 hf
  obtain ⟨o0, hl0, hnd, hlt, _, hol⟩ := left_facts fb hN hf
  obtain ⟨k, m', o, hv, hl⟩ := left_is fb hN hf
  have e : o0 = o := List.append_cancel_right (Option.some.inj (hl0.symm.trans hl))
  subst e
  have hm0 : MetIs fb.length ((List.replicate fb.length false).set 0 true) [] [0] := fun x hx => by
    rw [set_getD _ 0 x (by simp [hpos])]
    by_cases e : x = 0
    · rw [if_pos e]; simp [e]
    · rw [if_neg e]; simp [e, List.getD_eq_getElem?_getD, hx]
  obtain ⟨a1, a2, a3, a4, a5, a6, a7⟩ := vis_met hv [0] (by simp) hm0 (by simp) (by simp) (by simp)
  have h0w := hfw 0 hpos
  have ht := vis_topo hfw hv [0] (by simp) hm0 (by simp) (by simp) (by simp) (fun s hs n hn => by
    rw [List.mem_singleton.1 hs]; exact h0w n hn) (fun p hp => absurd hp (Nat.not_lt_zero _))
  refine ⟨o0, hl, hnd, hlt, topo_snoc ht fun n hn h0 hN => ?_, hol⟩
  have hlt' : n.toNat < fb.length := by omega
  rcases (a1 _ hlt').1 (a5 n hn h0 hN) with h | h
  · exact h
  · have := h0w n hn
    have e := List.mem_singleton.1 h
    omega
/-- the same, with places -/
theorem order_places {N : Nat} {nb : Nat → List Int} {out : List Nat} (h : Topo N nb out) : ∀ (i : Nat) (hi : i < out.reverse.length), ∀ n ∈ nb out.reverse[i], 0 ≤ n → n < (N : Int) → ∃ t, i < t ∧ ∃ ht : t < out.reverse.length, ((out.reverse[t] : Nat) : Int) = n := by
  intro i hi n hn h0 hN
  have hlen : out.reverse.length = out.length := List.length_reverse
  have hi' : i < out.length := by omega
  rw [List.getElem_reverse] at hn
  have h1 := h (out.length - 1 - i) (by omega) n (by rw [List.getD_eq_getElem?_getD, List.getElem?_eq_getElem (by omega)]; exact hn) h0 hN
  obtain ⟨q, hq, e⟩ := List.getElem_of_mem h1
  rw [List.length_take] at hq
  rw [List.getElem_take] at e
  refine ⟨out.length - 1 - q, by omega, by omega, ?_⟩
  rw [List.getElem_reverse]
  have e2 : out.length - 1 - (out.length - 1 - q) = q := by omega
  simp only [e2, e]
  exact Int.toNat_of_nonneg h0
theorem fw_l4 (a0 : Int) (fb : List S34) (L : List Nat) (x : List Int) (hx : x.length = fb.length + 1) (hfl : fb.length ≤ 60) (hL : L.length ≤ 100000) (i : Nat) (ns : List Int) (hns : ns.length ≤ 2) (h0 : ∀ n ∈ ns, 0 ≤ n)
    (hat : ∀ n ∈ ns, n < (fb.length : Int) → (i : Int) < x.getD n.toNat 0) (hi : i < 100000) (hk : Ev (fun k => hallmarklaw07_CfgForward.l3 k x (ints L) ((i + 1 : Nat) : Int) a0 fb) true) :
    ∀ (d j : Nat), d + j = ns.length → Ev (fun k => hallmarklaw07_CfgForward.l4 k x (ints L) (i : Int) ns (j : Int) a0 fb) true := by
  intro d
  induction d with
  | zero =>
    intro j hd
    obtain ⟨K1, e1⟩ := hk
    refine ⟨K1 + 1, fun k hkk => ?_⟩
    obtain ⟨q, rfl⟩ : ∃ q, k = q + 1 := ⟨k - 1, by omega⟩
    dsimp only at e1
    show hallmarklaw07_CfgForward.l4 (q + 1) x (ints L) (i : Int) ns (j : Int) a0 fb = _
    rw [hallmarklaw07_CfgForward.l4, if_neg (by omega), w_nat i (by omega)]
    exact e1 q (by omega)
  | succ d ih =>
    intro j hd
    have hj : j < ns.length := by omega
    have g1 : (j : Int) < (ns.length : Int) := by omega
    have hr := rd_nat ns j hj
    have hmem : ns[j] ∈ ns := List.getElem_mem hj
    have hn0 := h0 _ hmem
    have hna := hat _ hmem
    obtain ⟨K3, e3⟩ := ih (j + 1) (by omega)
    refine ⟨K3 + 1, fun k hkk => ?_⟩
    obtain ⟨q, rfl⟩ : ∃ q, k = q + 1 := ⟨k - 1, by omega⟩
    dsimp only at e3
    show hallmarklaw07_CfgForward.l4 (q + 1) x (ints L) (i : Int) ns (j : Int) a0 fb = _
    have e3' := e3 q (by omega)
    rw [hallmarklaw07_CfgForward.l4, if_pos g1, if_pos (Int.natCast_nonneg j), hr, w_nat j (by omega)]
    by_cases hlt : ns[j] < (fb.length : Int)
    · have hv : rd x ns[j] = x.getD ns[j].toNat 0 := by
        rw [← rd_getD, Int.toNat_of_nonneg hn0]
      have hlt2 : ns[j] < (x.length : Int) := by omega
      have hna' := hna hlt
      rw [if_pos hlt, if_pos hn0, if_pos hlt2, hv, if_neg (by omega)]
      exact e3'
    · rw [if_neg hlt]; exact e3'
theorem fw_l3 (a0 : Int) (fb : List S34) (hfl : fb.length ≤ 60) (L : List Nat) (x : List Int) (hx : x.length = fb.length + 1) (hL : L.length ≤ 60) (hlt : ∀ b ∈ L, b < fb.length) (hfw : ∀ b, b < fb.length → ∀ n ∈ nbOf fb b, (b : Int) < n)
    (hat : ∀ (t : Nat) (ht : t < L.length), x.getD L[t] 0 = (t : Int)) (htop : ∀ (i : Nat) (hi : i < L.length), ∀ n ∈ nbOf fb L[i], 0 ≤ n → n < (fb.length : Int) → ∃ t, i < t ∧ ∃ ht : t < L.length, ((L[t] : Nat) : Int) = n) :
    ∀ (d i : Nat), d + i = L.length → Ev (fun k => hallmarklaw07_CfgForward.l3 k x (ints L) (i : Int) a0 fb) true := by
  have hlen : ((ints L).length : Int) = (L.length : Int) := by rw [ints_length]
  intro d
  induction d with
  | zero =>
    intro i hd
    obtain ⟨K1, e1⟩ := lives_ev
    refine ⟨K1 + 1, fun k hkk => ?_⟩
    obtain ⟨q, rfl⟩ : ∃ q, k = q + 1 := ⟨k - 1, by omega⟩
    dsimp only at e1
    show hallmarklaw07_CfgForward.l3 (q + 1) x (ints L) (i : Int) a0 fb = _
    rw [hallmarklaw07_CfgForward.l3, if_neg (by rw [hlen]; omega), e1 q (by omega)]; rfl
  | succ d ih =>
    intro i hd
    have hi : i < L.length := by omega
    have hri := rd_ints L i hi
    have hb := hlt L[i] (List.getElem_mem hi)
    have g1 : (i : Int) < ((ints L).length : Int) := by rw [hlen]; omega
    have g2 : ((L[i] : Nat) : Int) < (fb.length : Int) := by omega
    have hfb := hfw L[i] hb
    have ht := htop i hi
    have hpos : ∀ n ∈ nbOf fb L[i], 0 ≤ n := fun n hn => by
      have := hfb n hn
      have := Int.natCast_nonneg L[i]
      omega
    obtain ⟨K1, e1⟩ := next_ev (rd_T34 fb ((L[i] : Nat) : Int))
    obtain ⟨K2, e2⟩ := fw_l4 a0 fb L x hx hfl (by omega) i (nbOf fb L[i]) (nbOf_len fb L[i]) hpos (fun n hn hlt' => by
      obtain ⟨t, h1, h2, h3⟩ := ht n hn (hpos n hn) hlt'
      have := hat t h2
      rw [← h3, Int.toNat_natCast, this]
      exact Int.ofNat_lt.2 h1) (by omega) (ih (i + 1) (by omega)) (nbOf fb L[i]).length 0 rfl
    refine ⟨K1 + K2 + 1, fun k hkk => ?_⟩
    obtain ⟨q, rfl⟩ : ∃ q, k = q + 1 := ⟨k - 1, by omega⟩
    dsimp only at e1 e2
    show hallmarklaw07_CfgForward.l3 (q + 1) x (ints L) (i : Int) a0 fb = _
    have e1' := e1 q (by omega)
    have e2' := e2 q (by omega)
    rw [← nbOf_nxS] at e1'
    rw [hallmarklaw07_CfgForward.l3, if_pos g1, if_pos (Int.natCast_nonneg i), hri, if_pos (Int.natCast_nonneg _), if_pos g2, e1', Option.bind_some]
    exact e2'
theorem fw_l2 (a0 : Int) (fb : List S34) (hfl : fb.length ≤ 60) (L : List Nat) (hL : L.length ≤ 60) (hlt : ∀ b ∈ L, b < fb.length) (hnd : L.Nodup) (hk : ∀ x : List Int, x.length = fb.length + 1 → (∀ (t : Nat) (ht : t < L.length), x.getD L[t] 0 = (t : Int)) → Ev (fun k => hallmarklaw07_CfgForward.l3 k x (ints L) ((0 : Nat) : Int) a0 fb) true) :
    ∀ (d i : Nat) (x : List Int), d + i = L.length → x.length = fb.length + 1 → (∀ (t : Nat) (ht : t < L.length), t < i → x.getD L[t] 0 = (t : Int)) → Ev (fun k => hallmarklaw07_CfgForward.l2 k x (ints L) (i : Int) a0 fb) true := by
  have hlen : ((ints L).length : Int) = (L.length : Int) := by rw [ints_length]
  intro d
  induction d with
  | zero =>
    intro i x hd hx hat
    obtain ⟨K1, e1⟩ := hk x hx (fun t ht => hat t ht (by omega))
    refine ⟨K1 + 1, fun k hkk => ?_⟩
    obtain ⟨q, rfl⟩ : ∃ q, k = q + 1 := ⟨k - 1, by omega⟩
    dsimp only at e1
    show hallmarklaw07_CfgForward.l2 (q + 1) x (ints L) (i : Int) a0 fb = _
    rw [hallmarklaw07_CfgForward.l2, if_neg (by rw [hlen]; omega)]
    exact e1 q (by omega)
  | succ d ih =>
    intro i x hd hx hat
    have hi : i < L.length := by omega
    have hri := rd_ints L i hi
    have hb := hlt L[i] (List.getElem_mem hi)
    have g1 : (i : Int) < ((ints L).length : Int) := by rw [hlen]; omega
    have g2 : ¬ ((L[i] : Nat) : Int) < 0 := by omega
    have g3 : ¬ ((L[i] : Nat) : Int) ≥ (fb.length : Int) := by omega
    have g4 : ((L[i] : Nat) : Int) < (x.length : Int) := by omega
    obtain ⟨K1, e1⟩ := ih (i + 1) (x.set L[i] (i : Int)) (by omega) (by rw [List.length_set]; exact hx) (fun t ht hti => by
      rw [getD_set x L[i] L[t] _ (by omega)]
      by_cases e : L[t] = L[i]
      · rw [if_pos e, (List.getElem_inj hnd).1 e]
      · rw [if_neg e]
        refine hat t ht ?_
        rcases Nat.lt_or_ge t i with h | h
        · exact h
        · have : t = i := Nat.le_antisymm (Nat.le_of_lt_succ hti) h
          subst this
          exact absurd rfl e)
    refine ⟨K1 + 1, fun k hkk => ?_⟩
    obtain ⟨q, rfl⟩ : ∃ q, k = q + 1 := ⟨k - 1, by omega⟩
    dsimp only at e1
    show hallmarklaw07_CfgForward.l2 (q + 1) x (ints L) (i : Int) a0 fb = _
    rw [hallmarklaw07_CfgForward.l2, if_pos g1, if_pos (Int.natCast_nonneg i), hri, if_neg g2, if_neg g3, if_pos (Int.natCast_nonneg _), if_pos g4, Int.toNat_natCast, w_nat i (by omega)]
    exact e1 q (by omega)
theorem fw_end (a0 : Int) (fb : List S34) (hfl : fb.length ≤ 60) (hfw : ∀ b, b < fb.length → ∀ n ∈ nbOf fb b, (b : Int) < n) : ∃ L : List Nat, cfg_Order.f a0 fb = some (ints L) ∧ Ev (fun k => hallmarklaw07_CfgForward.l2 k (List.replicate (fb.length + 1) 0) (ints L) ((0 : Nat) : Int) a0 fb) true := by
  by_cases hf : fb = []
  · subst hf
    refine ⟨[], rfl, fw_l2 a0 [] (by simp) [] (by simp) (by simp) (by simp) (fun x hx hat => ?_) 0 0 _ rfl (by simp) (fun t ht => absurd ht (by simp))⟩
    exact fw_l3 a0 [] (by simp) [] x hx (by simp) (by simp) (fun b hb => absurd hb (by simp)) hat (fun i hi => absurd hi (by simp)) 0 0 rfl
  · obtain ⟨o, hl, hnd, hlt, htop, hol⟩ := order_topo fb (by omega) hf hfw
    have ho : cfg_Order.f a0 fb = some (ints (o ++ [0]).reverse) := by
      unfold cfg_Order.f cfg_order.f
      rw [hl, Option.map_some, Option.bind_some]
      unfold ints
      rw [← List.map_reverse]
    have hlt' : ∀ b ∈ (o ++ [0]).reverse, b < fb.length := fun b hb => hlt b (List.mem_reverse.1 hb)
    have hlen : (o ++ [0]).reverse.length ≤ 60 := by rw [List.length_reverse, List.length_append, List.length_singleton]; omega
    refine ⟨_, ho, fw_l2 a0 fb hfl _ hlen hlt' (List.pairwise_reverse.2 (hnd.imp fun h => h.symm)) (fun x hx hat => ?_) (o ++ [0]).reverse.length 0 _ rfl (by simp) (fun t ht h => absurd h (Nat.not_lt_zero _))⟩
    exact fw_l3 a0 fb hfl _ x hx hlen hlt' hfw hat (order_places htop) (o ++ [0]).reverse.length 0 rfl
theorem fw_l0 (a0 : Int) (fb : List S34) (hfl : fb.length ≤ 60) : ∀ (d i : Nat), d + i = fb.length → (∀ b, b < i → ∀ n ∈ nbOf fb b, (b : Int) < n) → Ev (fun k => hallmarklaw07_CfgForward.l0 k (i : Int) a0 fb) true := by
  intro d
  induction d with
  | zero =>
    intro i hd hfw
    have hi : i = fb.length := by omega
    subst hi
    obtain ⟨L, ho, K1, e1⟩ := fw_end a0 fb hfl hfw
    refine ⟨K1 + 1, fun k hkk => ?_⟩
    obtain ⟨q, rfl⟩ : ∃ q, k = q + 1 := ⟨k - 1, by omega⟩
    dsimp only at e1
    show hallmarklaw07_CfgForward.l0 (q + 1) (fb.length : Int) a0 fb = _
    rw [hallmarklaw07_CfgForward.l0, if_neg (Int.lt_irrefl _), w_nat fb.length (by omega), if_pos (Int.natCast_nonneg _), Int.toNat_natCast, if_pos (by omega), ho, Option.bind_some]
    exact e1 q (by omega)
  | succ d ih =>
    intro i hd hfw
    have hi : i < fb.length := by omega
    have g1 : (i : Int) < (fb.length : Int) := by omega
    have hl1 : ∀ (e j : Nat), e + j = (nbOf fb i).length → (∀ t, t < j → (i : Int) < (nbOf fb i).getD t 0) → Ev (fun k => hallmarklaw07_CfgForward.l1 k (i : Int) (nbOf fb i) (j : Int) a0 fb) true := by
      have hns := nbOf_len fb i
      intro e
      induction e with
      | zero =>
        intro j he hj
        obtain ⟨K1, e1⟩ := ih (i + 1) (by omega) (fun b hb n hn => by
          rcases Nat.lt_or_ge b i with h | h
          · exact hfw b h n hn
          · have : b = i := Nat.le_antisymm (Nat.le_of_lt_succ hb) h
            subst this
            obtain ⟨t, ht, e⟩ := List.getElem_of_mem hn
            have := hj t (by omega)
            rw [List.getD_eq_getElem?_getD, List.getElem?_eq_getElem ht, Option.getD_some, e] at this
            exact this)
        refine ⟨K1 + 1, fun k hkk => ?_⟩
        obtain ⟨q, rfl⟩ : ∃ q, k = q + 1 := ⟨k - 1, by omega⟩
        dsimp only at e1
        show hallmarklaw07_CfgForward.l1 (q + 1) (i : Int) (nbOf fb i) (j : Int) a0 fb = _
        rw [hallmarklaw07_CfgForward.l1, if_neg (by omega), w_nat i (by omega)]
        exact e1 q (by omega)
      | succ e ih2 =>
        intro j he hj
        have hjl : j < (nbOf fb i).length := by omega
        have hr := rd_nat (nbOf fb i) j hjl
        have g2 : (j : Int) < ((nbOf fb i).length : Int) := by omega
        by_cases hle : (nbOf fb i)[j] ≤ (i : Int)
        · obtain ⟨K1, e1⟩ := lives_ev
          refine ⟨K1 + 1, fun k hkk => ?_⟩
          obtain ⟨q, rfl⟩ : ∃ q, k = q + 1 := ⟨k - 1, by omega⟩
          dsimp only at e1
          show hallmarklaw07_CfgForward.l1 (q + 1) (i : Int) (nbOf fb i) (j : Int) a0 fb = _
          rw [hallmarklaw07_CfgForward.l1, if_pos g2, if_pos (Int.natCast_nonneg j), hr, if_pos hle, e1 q (by omega)]; rfl
        · obtain ⟨K1, e1⟩ := ih2 (j + 1) (by omega) (fun t ht => by
            rcases Nat.lt_or_ge t j with h | h
            · exact hj t h
            · have : t = j := Nat.le_antisymm (Nat.le_of_lt_succ ht) h
              subst this
              rw [List.getD_eq_getElem?_getD, List.getElem?_eq_getElem hjl, Option.getD_some]
              exact Int.not_le.1 hle)
          refine ⟨K1 + 1, fun k hkk => ?_⟩
          obtain ⟨q, rfl⟩ : ∃ q, k = q + 1 := ⟨k - 1, by omega⟩
          dsimp only at e1
          show hallmarklaw07_CfgForward.l1 (q + 1) (i : Int) (nbOf fb i) (j : Int) a0 fb = _
          rw [hallmarklaw07_CfgForward.l1, if_pos g2, if_pos (Int.natCast_nonneg j), hr, if_neg hle, w_nat j (by omega)]
          exact e1 q (by omega)
    obtain ⟨K1, e1⟩ := next_ev (rd_T34 fb (i : Int))
    obtain ⟨K2, e2⟩ := hl1 (nbOf fb i).length 0 rfl (fun t ht => absurd ht (Nat.not_lt_zero _))
    refine ⟨K1 + K2 + 1, fun k hkk => ?_⟩
    obtain ⟨q, rfl⟩ : ∃ q, k = q + 1 := ⟨k - 1, by omega⟩
    dsimp only at e1 e2
    show hallmarklaw07_CfgForward.l0 (q + 1) (i : Int) a0 fb = _
    have e1' := e1 q (by omega)
    rw [← nbOf_nxS] at e1'
    rw [hallmarklaw07_CfgForward.l0, if_pos g1, if_pos (Int.natCast_nonneg i), e1', Option.bind_some]
    exact e2 q (by omega)
theorem CfgForward : hallmarklaw07_CfgForward.Pure := by
  intro a0 fb _ _
  have hN : (fb.take 60).length ≤ 60 := by rw [List.length_take]; omega
  have key : Ev (fun k => hallmarklaw07_CfgForward.f k a0 fb) true := by
    refine Ev.congr (f := fun k => hallmarklaw07_CfgForward.l0 k ((0 : Nat) : Int) a0 (fb.take 60)) (fun k => ?_) (fw_l0 a0 (fb.take 60) hN (fb.take 60).length 0 rfl (fun b hb => absurd hb (Nat.not_lt_zero _)))
    show hallmarklaw07_CfgForward.f k a0 fb = _
    unfold hallmarklaw07_CfgForward.f
    rw [few_is, Option.bind_some]; rfl
  exact key.rounds
end Go.Proofs.Ytfkicdelkjjliaa.Pure
