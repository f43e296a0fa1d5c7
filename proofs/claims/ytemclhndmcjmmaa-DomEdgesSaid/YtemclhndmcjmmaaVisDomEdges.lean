/- The walk from block to block as a relation: what is met, what is left. -/
import Derived.Test.YtemclhndmcjmmaaBaseDomEdges
set_option linter.unusedVariables false
namespace Go.Proofs.Ytemclhndmcjmmaa.BaseDomEdges
open Go Go.RowKit Go.Proofs.YtemclhndmcjmmaaW.PrintWords Go.Proofs.YtemclhndmcjmmaaW.PrintLast Go.Proofs.YtemclhndmcjmmaaW.PrintMore Go.Proofs.Ytemclhndmcjmmaa.PDomEdges

/-- block n is there, and was not met -/
def okV (N : Nat) (m : List Bool) (n : Int) : Prop := 0 ≤ n ∧ n < (N : Int) ∧ m.getD n.toNat false = false
/-- going through a list of blocks: in k steps; what was met and left before and behind -/
inductive Vis (N : Nat) (nb : Nat → List Int) : Nat → List Bool → List Nat → List Int → List Bool → List Nat → Prop
  | nil (m : List Bool) (o : List Nat) : Vis N nb 0 m o [] m o
  | skip {k : Nat} {m m' : List Bool} {o o' : List Nat} {n : Int} {l : List Int} (h : ¬ okV N m n) (t : Vis N nb k m o l m' o') : Vis N nb (k + 1) m o (n :: l) m' o'
  | visit {k1 k2 : Nat} {m m1 m' : List Bool} {o o1 o' : List Nat} {n : Int} {l : List Int} (h : okV N m n) (t1 : Vis N nb k1 (m.set n.toNat true) o (nb n.toNat) m1 o1) (t2 : Vis N nb k2 m1 (o1 ++ [n.toNat]) l m' o') : Vis N nb (k1 + k2 + 2) m o (n :: l) m' o'
theorem drop_cons {l : List Int} {i : Nat} {n : Int} {r : List Int} (h : n :: r = l.drop i) : i < l.length ∧ l.getD i 0 = n ∧ r = l.drop (i + 1) := by
  have hi : i < l.length := by
    rcases Nat.lt_or_ge i l.length with h1 | h1
    · exact h1
    · rw [List.drop_of_length_le h1] at h; cases h
  rw [List.drop_eq_getElem_cons hi] at h
  injection h with h1 h2
  exact ⟨hi, by rw [List.getD_eq_getElem?_getD, List.getElem?_eq_getElem hi]; exact h1.symm, h2⟩
theorem vis_run {N : Nat} {nb : Nat → List Int} {k : Nat} {m m' : List Bool} {o o' : List Nat} {l : List Int} (h : Vis N nb k m o l m' o') : ∀ (b i j : Nat) (st : List (Nat × Nat)), l = (nb b).drop i → lrun N nb (k + 1 + j) (m, st ++ [(b, i)], o) = lrun N nb j (m', st, o' ++ [b]) := by
  induction h with
  | nil m o =>
    intro b i j st hl
    have hi : ¬ i < (nb b).length := fun h => by
      rw [List.drop_eq_getElem_cons h] at hl; cases hl
    rw [show 0 + 1 + j = j + 1 by omega, lrun, lstep_on, if_neg hi]
  | skip hn t ih =>
    intro b i j st hl
    obtain ⟨hi, hv, hr⟩ := drop_cons hl
    rename_i k m m' o o' n l
    rw [show k + 1 + 1 + j = (k + 1 + j) + 1 by omega, lrun, lstep_on, if_pos hi, hv, if_neg (show ¬ (0 ≤ n ∧ n < (N : Int) ∧ m.getD n.toNat false = false) from hn)]
    exact ih b (i + 1) j st hr
  | visit hn t1 t2 ih1 ih2 =>
    intro b i j st hl
    obtain ⟨hi, hv, hr⟩ := drop_cons hl
    rename_i k1 k2 m m1 m' o o1 o' n l
    rw [show k1 + k2 + 2 + 1 + j = (k1 + 1 + (k2 + 1 + j)) + 1 by omega, lrun, lstep_on, if_pos hi, hv, if_pos (show (0 ≤ n ∧ n < (N : Int) ∧ m.getD n.toNat false = false) from hn), ih1 n.toNat 0 (k2 + 1 + j) (st ++ [(b, i + 1)]) rfl]
    exact ih2 b (i + 1) j st hr
theorem okV_count {N : Nat} {m : List Bool} {n : Int} (hm : m.length = N) (h : okV N m n) : (m.set n.toNat true).count false + 1 = m.count false := by
  refine count_set m n.toNat ?_
  have hlt : n.toNat < m.length := by have := h.1; have := h.2.1; omega
  have := h.2.2
  rw [List.getD_eq_getElem?_getD, List.getElem?_eq_getElem hlt] at this
  rw [List.getElem?_eq_getElem hlt]
  simpa using this
theorem vis_some (N : Nat) (nb : Nat → List Int) (hnb : ∀ b, (nb b).length ≤ 2) : ∀ (u : Nat) (l : List Int) (m : List Bool) (o : List Nat), m.length = N → m.count false ≤ u →
    ∃ k m' o', Vis N nb k m o l m' o' ∧ m'.length = N ∧ m'.count false ≤ m.count false ∧ k + 4 * m'.count false ≤ l.length + 4 * m.count false := by
  intro u
  induction u with
  | zero =>
    intro l
    induction l with
    | nil => intro m o hm hu; exact ⟨0, m, o, .nil m o, hm, Nat.le_refl _, by simp⟩
    | cons n l ih =>
      intro m o hm hu
      have hn : ¬ okV N m n := fun h => by have := okV_count hm h; omega
      obtain ⟨k, m', o', hv, h1, h2, h3⟩ := ih m o hm hu
      exact ⟨k + 1, m', o', .skip hn hv, h1, h2, by simp only [List.length_cons]; omega⟩
  | succ u ihu =>
    intro l
    induction l with
    | nil => intro m o hm hu; exact ⟨0, m, o, .nil m o, hm, Nat.le_refl _, by simp⟩
    | cons n l ih =>
      intro m o hm hu
      by_cases hn : okV N m n
      · have hc := okV_count hm hn
        obtain ⟨k1, m1, o1, hv1, a1, a2, a3⟩ := ihu (nb n.toNat) (m.set n.toNat true) o (by rw [List.length_set]; exact hm) (by omega)
        obtain ⟨k2, m', o', hv2, b1, b2, b3⟩ := ihu l m1 (o1 ++ [n.toNat]) a1 (by omega)
        have := hnb n.toNat
        exact ⟨k1 + k2 + 2, m', o', .visit hn hv1 hv2, b1, by omega, by simp only [List.length_cons]; omega⟩
      · obtain ⟨k, m', o', hv, h1, h2, h3⟩ := ih m o hm hu
        exact ⟨k + 1, m', o', .skip hn hv, h1, h2, by simp only [List.length_cons]; omega⟩
theorem vis_len {N : Nat} {nb : Nat → List Int} {k : Nat} {m m' : List Bool} {o o' : List Nat} {l : List Int} (h : Vis N nb k m o l m' o') : m.length = N → m'.length = N ∧ o'.length + m'.count false = o.length + m.count false := by
  induction h with
  | nil m o => intro hm; exact ⟨hm, rfl⟩
  | skip hn t ih => exact ih
  | visit hn t1 t2 ih1 ih2 =>
    intro hm
    have hc := okV_count hm hn
    obtain ⟨a1, a2⟩ := ih1 (by rw [List.length_set]; exact hm)
    obtain ⟨b1, b2⟩ := ih2 a1
    refine ⟨b1, ?_⟩
    simp only [List.length_append, List.length_singleton] at b2
    omega
theorem set_getD (m : List Bool) (i n : Nat) (hi : i < m.length) : (m.set i true).getD n false = if n = i then true else m.getD n false := by
  by_cases h : n = i
  · subst h; rw [if_pos rfl, List.getD_eq_getElem?_getD, List.getElem?_set_self hi]; rfl
  · rw [if_neg h, List.getD_eq_getElem?_getD, List.getElem?_set_ne (fun e => h e.symm), ← List.getD_eq_getElem?_getD]
/-- what is met is what was left, and what is on the way (S) -/
def MetIs (N : Nat) (m : List Bool) (o S : List Nat) : Prop := ∀ x, x < N → (m.getD x false = true ↔ x ∈ o ∨ x ∈ S)
theorem vis_met {N : Nat} {nb : Nat → List Int} {k : Nat} {m m' : List Bool} {o o' : List Nat} {l : List Int} (h : Vis N nb k m o l m' o') : ∀ S : List Nat, m.length = N → MetIs N m o S → (∀ x ∈ o, x < N) → o.Nodup → (∀ x ∈ S, x ∉ o) →
    MetIs N m' o' S ∧ (∀ x ∈ o', x < N) ∧ o'.Nodup ∧ (∀ x ∈ S, x ∉ o') ∧ (∀ n ∈ l, 0 ≤ n → n < (N : Int) → m'.getD n.toNat false = true) ∧ (∀ x ∈ o, x ∈ o') ∧ (∀ x ∈ o', x ∈ o ∨ (x : Int) ∈ l ∨ ∃ y ∈ o', (x : Int) ∈ nb y) := by
  induction h with
  | nil m o => intro S hm h1 h2 h3 h4; exact ⟨h1, h2, h3, h4, by simp, fun x hx => hx, fun x hx => .inl hx⟩
  | skip hn t ih =>
    intro S hm h1 h2 h3 h4
    obtain ⟨a1, a2, a3, a4, a5, a6, a7⟩ := ih S hm h1 h2 h3 h4
    rename_i k m m' o o' n l
    refine ⟨a1, a2, a3, a4, fun n' hn' h0 hN => ?_, a6, fun x hx => (a7 x hx).imp id (Or.imp (List.mem_cons_of_mem _) id)⟩
    rcases List.mem_cons.1 hn' with e | hn'
    · subst e
      have hlt : n'.toNat < N := by omega
      have hmt : m.getD n'.toNat false = true := by
        cases hb : m.getD n'.toNat false with
        | true => rfl
        | false => exact absurd ⟨h0, hN, hb⟩ hn
      rcases (h1 _ hlt).1 hmt with h | h
      · exact (a1 _ hlt).2 (.inl (a6 _ h))
      · exact (a1 _ hlt).2 (.inr h)
    · exact a5 n' hn' h0 hN
  | visit hn t1 t2 ih1 ih2 =>
    intro S hm h1 h2 h3 h4
    rename_i k1 k2 m m1 m' o o1 o' n l
    have hlt : n.toNat < N := by have := hn.1; have := hn.2.1; omega
    have hnm : m.getD n.toNat false = false := hn.2.2
    have hno : n.toNat ∉ o := fun h => by rw [(h1 _ hlt).2 (.inl h)] at hnm; cases hnm
    have hnS : n.toNat ∉ S := fun h => by rw [(h1 _ hlt).2 (.inr h)] at hnm; cases hnm
    have hm1 : MetIs N (m.set n.toNat true) o (n.toNat :: S) := fun x hx => by
      rw [set_getD m n.toNat x (by omega)]
      by_cases e : x = n.toNat
      · rw [if_pos e]; simp [e]
      · rw [if_neg e, h1 x hx]; simp [e]
    obtain ⟨a1, a2, a3, a4, a5, a6, a7⟩ := ih1 (n.toNat :: S) (by rw [List.length_set]; exact hm) hm1 h2 h3 (fun x hx => (List.mem_cons.1 hx).elim (fun e => e ▸ hno) (fun h => h4 x h))
    have hlen1 := (vis_len t1 (by rw [List.length_set]; exact hm)).1
    have hn1 : n.toNat ∉ o1 := a4 _ List.mem_cons_self
    have hm2 : MetIs N m1 (o1 ++ [n.toNat]) S := fun x hx => by
      rw [a1 x hx, List.mem_cons, List.mem_append, List.mem_singleton]
      exact ⟨fun h => h.elim (fun h => .inl (.inl h)) (fun h => h.elim (fun h => .inl (.inr h)) .inr), fun h => h.elim (fun h => h.elim .inl (fun h => .inr (.inl h))) (fun h => .inr (.inr h))⟩
    obtain ⟨b1, b2, b3, b4, b5, b6, b7⟩ := ih2 S hlen1 hm2 (fun x hx => (List.mem_append.1 hx).elim (a2 x) (fun h => by rw [List.mem_singleton.1 h]; exact hlt))
      (List.nodup_append.2 ⟨a3, by simp, fun x hx y hy => by rw [List.mem_singleton.1 hy]; exact fun e => hn1 (e ▸ hx)⟩)
      (fun x hx hxo => (List.mem_append.1 hxo).elim (fun h => a4 x (List.mem_cons_of_mem _ hx) h) (fun h => hnS (List.mem_singleton.1 h ▸ hx)))
    have hno' : n.toNat ∈ o' := b6 _ (List.mem_append_right _ (by simp))
    have hcast : ((n.toNat : Nat) : Int) = n := Int.toNat_of_nonneg hn.1
    refine ⟨b1, b2, b3, b4, fun n' hn' h0 hN => ?_, fun x hx => b6 x (List.mem_append_left _ (a6 x hx)), fun x hx => ?_⟩
    · rcases List.mem_cons.1 hn' with e | hn'
      · subst e; exact (b1 _ hlt).2 (.inl hno')
      · exact b5 n' hn' h0 hN
    · rcases b7 x hx with h | h | h
      · rcases List.mem_append.1 h with h | h
        · rcases a7 x h with h | h | ⟨y, hy, h⟩
          · exact .inl h
          · exact .inr (.inr ⟨n.toNat, hno', h⟩)
          · exact .inr (.inr ⟨y, b6 y (List.mem_append_left _ hy), h⟩)
        · exact .inr (.inl (by rw [List.mem_singleton.1 h, hcast]; exact List.mem_cons_self))
      · exact .inr (.inl (List.mem_cons_of_mem _ h))
      · exact .inr (.inr h)
theorem nbOf_len' (fb : List S54) : ∀ b, (nbOf fb b).length ≤ 2 := nbOf_len fb
/-- how the blocks are left -/
theorem left_is (fb : List S54) (hN : fb.length ≤ 1099511627776) (hf : fb ≠ []) : ∃ (k : Nat) (m' : List Bool) (o : List Nat), Vis fb.length (nbOf fb) k ((List.replicate fb.length false).set 0 true) [] (nbOf fb 0) m' o ∧ Go.Proofs.Ytemclhndmcjmmaa.PDomEdges.leftOf fb = some (o ++ [0]) := by
  have hpos : 0 < fb.length := List.length_pos_iff.2 hf
  have hc : ((List.replicate fb.length false).set 0 true).count false + 1 = fb.length := by
    have := count_set (List.replicate fb.length false) 0 (by simp [hpos])
    rw [this]; simp
  obtain ⟨k, m', o, hv, h1, h2, h3⟩ := vis_some fb.length (nbOf fb) (nbOf_len fb) _ (nbOf fb 0) ((List.replicate fb.length false).set 0 true) [] (by simp) (Nat.le_refl _)
  have hl0 := nbOf_len fb 0
  refine ⟨k, m', o, hv, ?_⟩
  have hrun := vis_run hv 0 0 (4 * fb.length + 4 - (k + 1)) [] rfl
  rw [lrun_nil, show k + 1 + (4 * fb.length + 4 - (k + 1)) = 4 * fb.length + 4 by omega, List.nil_append] at hrun
  have hlen := (vis_len hv (by simp)).2
  unfold Go.Proofs.Ytemclhndmcjmmaa.PDomEdges.leftOf
  rw [if_neg hf, hrun, if_pos ⟨rfl, hN, by simp only [List.length_append, List.length_singleton, List.length_nil] at hlen ⊢; omega⟩]
/-- the blocks as the walk leaves them: each once, the first one last, each other one behind some that is ahead of it -/
theorem left_facts (fb : List S54) (hN : fb.length ≤ 1099511627776) (hf : fb ≠ []) : ∃ o : List Nat, Go.Proofs.Ytemclhndmcjmmaa.PDomEdges.leftOf fb = some (o ++ [0]) ∧ (o ++ [0]).Nodup ∧ (∀ x ∈ o ++ [0], x < fb.length) ∧ (∀ x ∈ o, ∃ y ∈ o ++ [0], (x : Int) ∈ nbOf fb y) ∧ o.length + 1 ≤ fb.length := by
  have hpos : 0 < fb.length := List.length_pos_iff.2 hf
  obtain ⟨k, m', o, hv, hl⟩ := left_is fb hN hf
  obtain ⟨a1, a2, a3, a4, a5, a6, a7⟩ := vis_met hv [0] (by simp) (fun x hx => by
    rw [set_getD _ 0 x (by simp [hpos])]
    by_cases e : x = 0
    · rw [if_pos e]; simp [e]
    · rw [if_neg e]; simp [e, List.getD_eq_getElem?_getD, hx]) (by simp) (by simp) (by simp)
  have h0 : 0 ∉ o := a4 0 (by simp)
  have hc : ((List.replicate fb.length false).set 0 true).count false + 1 = fb.length := by
    have := count_set (List.replicate fb.length false) 0 (by simp [hpos])
    rw [this]; simp
  have hlen := (vis_len hv (by simp)).2
  rw [List.length_nil] at hlen
  refine ⟨o, hl, List.nodup_append.2 ⟨a3, by simp, fun x hx y hy => by rw [List.mem_singleton.1 hy]; exact fun e => h0 (e ▸ hx)⟩, fun x hx => (List.mem_append.1 hx).elim (a2 x) (fun h => by rw [List.mem_singleton.1 h]; exact hpos), fun x hx => ?_, by omega⟩
  rcases a7 x hx with h | h | ⟨y, hy, h⟩
  · cases h
  · exact ⟨0, by simp, h⟩
  · exact ⟨y, List.mem_append_left _ hy, h⟩
end Go.Proofs.Ytemclhndmcjmmaa.BaseDomEdges
