-- written by wip/print2.py
import Derived.Test.YtemclhndmcjmmaaPDomTamex0
import Derived.Test.YtemclhndmcjmmaaPDomTamex1
import Derived.Test.YtemclhndmcjmmaaPDomTamex3
import Derived.Test.YtemclhndmcjmmaaPDomTamex6
import Derived.Test.YtemclhndmcjmmaaPDomTamex7
namespace Go.Proofs.Ytemclhndmcjmmaa.PDomTame
open Go.RowKit Go.Proofs.YtemclhndmcjmmaaW.PrintWords Go.Proofs.YtemclhndmcjmmaaW.PrintLast Go.Proofs.YtemclhndmcjmmaaW.PrintMore
attribute [local go_sem] max2_int min2_int max_two min_two max_three min_three max_four min_four   -- for this text's walks alone
set_option linter.unusedVariables false
set_option linter.unusedSimpArgs false

/-! ### hallmarkref07_Order: function 11 -/
open Go.Shelf Iter
set_option linter.unusedVariables false
set_option linter.unusedSimpArgs false
attribute [local go_sem] Oper.semAt_some
/-- a round that comes to what another does -/
theorem ev_step {α : Type} {g f : Nat → Option α} {r : α} (h : ∀ k, g (k + 1) = f k) (k : Ev f r) : Ev g r := Ev.step h k
theorem ev_eq {α : Type} {g : Nat → Option α} {r r' : α} (h : Ev g r) (e : r = r') : Ev g r' := e ▸ h
/-- it ends, in something of which Q holds -/
def EvP {α : Type} (g : Nat → Option α) (Q : α → Prop) : Prop := ∃ y, Q y ∧ Ev g y
theorem evp_step {α : Type} {g f : Nat → Option α} {Q : α → Prop} (h : ∀ k, g (k + 1) = f k) (k : EvP f Q) : EvP g Q := let ⟨y, hy, he⟩ := k; ⟨y, hy, ev_step h he⟩
theorem evp_now {α : Type} {Q : α → Prop} (r : α) (h : Q r) : EvP (fun _ => some r) Q := ⟨r, h, Ev.now r⟩
theorem evp_bind {α β : Type} {g : Nat → Option α} {f : Nat → α → Option β} {a : α} {Q : β → Prop} (h : Ev g a) (k : EvP (fun n => f n a) Q) : EvP (fun n => (g n).bind (f n)) Q := let ⟨y, hy, he⟩ := k; ⟨y, hy, Ev.bind h he⟩
theorem w_id {x : Int} (h0 : -9223372036854775808 ≤ x) (h1 : x < 9223372036854775808) : wrap64 x = x := by unfold wrap64; omega
theorem w_nat (i : Nat) (h : i < 9223372036854775807) : wrap64 ((i : Int) + 1) = ((i + 1 : Nat) : Int) := by unfold wrap64; omega
theorem rd_nat (l : List Int) (i : Nat) (h : i < l.length) : rd l (i : Int) = l[i] := by unfold rd; simp [h]
theorem rd_getD (l : List Int) (i : Nat) : rd l (i : Int) = l.getD i 0 := by unfold rd; simp

/-- Has tells whether a number is in a list -/
theorem has_l (l : List Int) (hl : l.length ≤ 9223372036854775000) (x : Int) : ∀ (d i : Nat), d + i = l.length → Ev (fun k => hallmarkref07_Has.l0 k l x (i : Int)) (decide (x ∈ l.drop i)) := by
  intro d
  induction d with
  | zero =>
    intro i hd
    refine ev_step (f := fun _ => some (decide (x ∈ l.drop i))) (fun k => ?_) (Ev.now _)
    show hallmarkref07_Has.l0 (k + 1) l x (i : Int) = some (decide (x ∈ l.drop i))
    have e : l.drop i = [] := List.drop_of_length_le (by omega)
    rw [hallmarkref07_Has.l0, if_neg (by omega), e]; rfl
  | succ d ih =>
    intro i hd
    have hi : i < l.length := by omega
    have e : l.drop i = l[i] :: l.drop (i + 1) := List.drop_eq_getElem_cons hi
    have h1 : (i : Int) < (l.length : Int) := by omega
    have h2 : (0 : Int) ≤ (i : Int) := by omega
    have hw := w_nat i (by omega)
    by_cases hx : l[i] = x
    · refine ev_step (f := fun _ => some (decide (x ∈ l.drop i))) (fun k => ?_) (Ev.now _)
      show hallmarkref07_Has.l0 (k + 1) l x (i : Int) = some (decide (x ∈ l.drop i))
      rw [hallmarkref07_Has.l0, if_pos h1, if_pos h2, rd_nat l i hi, if_pos hx, e]
      simp [hx]
    · refine ev_step (f := fun k => hallmarkref07_Has.l0 k l x ((i + 1 : Nat) : Int)) (fun k => ?_) (ev_eq (ih (i + 1) (by omega)) ?_)
      · show hallmarkref07_Has.l0 (k + 1) l x (i : Int) = _
        rw [hallmarkref07_Has.l0, if_pos h1, if_pos h2, rd_nat l i hi, if_neg hx, hw]
      · rw [e]
        refine decide_eq_decide.2 ⟨fun h => List.mem_cons_of_mem _ h, fun h => ?_⟩
        rcases List.mem_cons.1 h with h | h
        · exact absurd h.symm hx
        · exact h
theorem has_ev (l : List Int) (hl : l.length ≤ 9223372036854775000) (x : Int) : Ev (fun k => hallmarkref07_Has.f k l x) (decide (x ∈ l)) := by
  have h := has_l l hl x l.length 0 (by omega)
  rw [List.drop_zero] at h
  exact h
/-- the blocks that follow -/
def nxS (x : S54) : List Int := if x.f2.f0 = 0 then [x.f2.f2] else if x.f2.f0 = 1 then (if x.f2.f3 = x.f2.f2 then [x.f2.f2] else [x.f2.f2, x.f2.f3]) else []
theorem nbOf_nxS (fb : List S54) (b : Nat) : nbOf fb b = nxS (rd_T54 fb (b : Int)) := rfl
theorem cfg_next_is (x : S54) : cfg_next.f x.f0 x.f1 x.f2.f0 x.f2.f1 x.f2.f2 x.f2.f3 x.f2.f4 x.f2.f5 = some (nxS x) := rfl
theorem nxS_len (x : S54) : (nxS x).length ≤ 2 := by
  unfold nxS
  split
  · simp
  · split
    · split <;> simp
    · simp
theorem next_ev (x : S54) : Ev (fun k => hallmarkref07_Next.f k x.f0 x.f1 x.f2.f0 x.f2.f1 x.f2.f2 x.f2.f3 x.f2.f4 x.f2.f5) (nxS x) := by
  refine Ev.of (fun k => hallmarkref07_Next.mono _ _ _ _ _ _ _ _ k) (k := 8) ?_
  obtain ⟨p, ops, ⟨K, a, tt, els, L, M⟩⟩ := x
  by_cases h0 : K = 0
  · subst h0
    simp [nxS, hallmarkref07_Next.f, hallmarkref07_Targets.f, hallmarkref07_Targets.j0, hallmarkref07_Next.l0, hallmarkref07_Has.f, hallmarkref07_Has.l0, rd_T67, rd, wrap64]
  · by_cases h1 : K = 1
    · subst h1
      by_cases h2 : els = tt
      · subst h2
        simp [nxS, hallmarkref07_Next.f, hallmarkref07_Targets.f, hallmarkref07_Targets.j0, hallmarkref07_Next.l0, hallmarkref07_Has.f, hallmarkref07_Has.l0, rd_T67, rd, wrap64]
      · have h3 : ¬ tt = els := fun e => h2 e.symm
        simp [nxS, hallmarkref07_Next.f, hallmarkref07_Targets.f, hallmarkref07_Targets.j0, hallmarkref07_Next.l0, hallmarkref07_Has.f, hallmarkref07_Has.l0, rd_T67, rd, wrap64, h2, h3]
    · have h2 : (K == 1) = false := by simpa using h1
      simp [nxS, hallmarkref07_Next.f, hallmarkref07_Targets.f, hallmarkref07_Targets.j0, hallmarkref07_Next.l0, hallmarkref07_Has.f, hallmarkref07_Has.l0, rd_T67, rd, wrap64, h0, h1, h2]
/-- block n is there, and was not met -/
def okV (N : Nat) (m : List Bool) (n : Int) : Prop := 0 ≤ n ∧ n < (N : Int) ∧ m.getD n.toNat false = false
/-- going through a list of blocks: in k steps; what was met and left before and behind -/
inductive Vis (N : Nat) (nb : Nat → List Int) : Nat → List Bool → List Nat → List Int → List Bool → List Nat → Prop
  | nil (m : List Bool) (o : List Nat) : Vis N nb 0 m o [] m o
  | skip {k : Nat} {m m' : List Bool} {o o' : List Nat} {n : Int} {l : List Int} (h : ¬ okV N m n) (t : Vis N nb k m o l m' o') : Vis N nb (k + 1) m o (n :: l) m' o'
  | visit {k1 k2 : Nat} {m m1 m' : List Bool} {o o1 o' : List Nat} {n : Int} {l : List Int} (h : okV N m n) (t1 : Vis N nb k1 (m.set n.toNat true) o (nb n.toNat) m1 o1) (t2 : Vis N nb k2 m1 (o1 ++ [n.toNat]) l m' o') : Vis N nb (k1 + k2 + 2) m o (n :: l) m' o'
theorem drop_cons {l : List Int} {i : Nat} {n : Int} {r : List Int} (h : n :: r = l.drop i) : i < l.length ∧ l.getD i 0 = n ∧ r = l.drop (i + 1) := by
  have hi : i < l.length := by
    rcases Nat.lt_or_ge i l.length with h1 | h1
    · exact h1
    · rw [List.drop_of_length_le h1] at h; cases h
  rw [List.drop_eq_getElem_cons hi] at h
  injection h with h1 h2
  exact ⟨hi, by rw [List.getD_eq_getElem?_getD, List.getElem?_eq_getElem hi]; exact h1.symm, h2⟩
theorem vis_run {N : Nat} {nb : Nat → List Int} {k : Nat} {m m' : List Bool} {o o' : List Nat} {l : List Int} (h : Vis N nb k m o l m' o') : ∀ (b i j : Nat) (st : List (Nat × Nat)), l = (nb b).drop i → lrun N nb (k + 1 + j) (m, st ++ [(b, i)], o) = lrun N nb j (m', st, o' ++ [b]) := by
  induction h with
  | nil m o =>
    intro b i j st hl
    have hi : ¬ i < (nb b).length := fun h => by
      rw [List.drop_eq_getElem_cons h] at hl; cases hl
    rw [show 0 + 1 + j = j + 1 by omega, lrun, lstep_on, if_neg hi]
  | skip hn t ih =>
    intro b i j st hl
    obtain ⟨hi, hv, hr⟩ := drop_cons hl
    rename_i k m m' o o' n l
    rw [show k + 1 + 1 + j = (k + 1 + j) + 1 by omega, lrun, lstep_on, if_pos hi, hv, if_neg (show ¬ (0 ≤ n ∧ n < (N : Int) ∧ m.getD n.toNat false = false) from hn)]
    exact ih b (i + 1) j st hr
  | visit hn t1 t2 ih1 ih2 =>
    intro b i j st hl
    obtain ⟨hi, hv, hr⟩ := drop_cons hl
    rename_i k1 k2 m m1 m' o o1 o' n l
    rw [show k1 + k2 + 2 + 1 + j = (k1 + 1 + (k2 + 1 + j)) + 1 by omega, lrun, lstep_on, if_pos hi, hv, if_pos (show (0 ≤ n ∧ n < (N : Int) ∧ m.getD n.toNat false = false) from hn), ih1 n.toNat 0 (k2 + 1 + j) (st ++ [(b, i + 1)]) rfl]
    exact ih2 b (i + 1) j st hr
theorem okV_count {N : Nat} {m : List Bool} {n : Int} (hm : m.length = N) (h : okV N m n) : (m.set n.toNat true).count false + 1 = m.count false := by
  refine count_set m n.toNat ?_
  have hlt : n.toNat < m.length := by have := h.1; have := h.2.1; omega
  have := h.2.2
  rw [List.getD_eq_getElem?_getD, List.getElem?_eq_getElem hlt] at this
  rw [List.getElem?_eq_getElem hlt]
  simpa using this
theorem vis_some (N : Nat) (nb : Nat → List Int) (hnb : ∀ b, (nb b).length ≤ 2) : ∀ (u : Nat) (l : List Int) (m : List Bool) (o : List Nat), m.length = N → m.count false ≤ u →
    ∃ k m' o', Vis N nb k m o l m' o' ∧ m'.length = N ∧ m'.count false ≤ m.count false ∧ k + 4 * m'.count false ≤ l.length + 4 * m.count false := by
  intro u
  induction u with
  | zero =>
    intro l
    induction l with
    | nil => intro m o hm hu; exact ⟨0, m, o, .nil m o, hm, Nat.le_refl _, by simp⟩
    | cons n l ih =>
      intro m o hm hu
      have hn : ¬ okV N m n := fun h => by have := okV_count hm h; omega
      obtain ⟨k, m', o', hv, h1, h2, h3⟩ := ih m o hm hu
      exact ⟨k + 1, m', o', .skip hn hv, h1, h2, by simp only [List.length_cons]; omega⟩
  | succ u ihu =>
    intro l
    induction l with
    | nil => intro m o hm hu; exact ⟨0, m, o, .nil m o, hm, Nat.le_refl _, by simp⟩
    | cons n l ih =>
      intro m o hm hu
      by_cases hn : okV N m n
      · have hc := okV_count hm hn
        obtain ⟨k1, m1, o1, hv1, a1, a2, a3⟩ := ihu (nb n.toNat) (m.set n.toNat true) o (by rw [List.length_set]; exact hm) (by omega)
        obtain ⟨k2, m', o', hv2, b1, b2, b3⟩ := ihu l m1 (o1 ++ [n.toNat]) a1 (by omega)
        have := hnb n.toNat
        exact ⟨k1 + k2 + 2, m', o', .visit hn hv1 hv2, b1, by omega, by simp only [List.length_cons]; omega⟩
      · obtain ⟨k, m', o', hv, h1, h2, h3⟩ := ih m o hm hu
        exact ⟨k + 1, m', o', .skip hn hv, h1, h2, by simp only [List.length_cons]; omega⟩
theorem vis_len {N : Nat} {nb : Nat → List Int} {k : Nat} {m m' : List Bool} {o o' : List Nat} {l : List Int} (h : Vis N nb k m o l m' o') : m.length = N → m'.length = N ∧ o'.length + m'.count false = o.length + m.count false := by
  induction h with
  | nil m o => intro hm; exact ⟨hm, rfl⟩
  | skip hn t ih => exact ih
  | visit hn t1 t2 ih1 ih2 =>
    intro hm
    have hc := okV_count hm hn
    obtain ⟨a1, a2⟩ := ih1 (by rw [List.length_set]; exact hm)
    obtain ⟨b1, b2⟩ := ih2 a1
    refine ⟨b1, ?_⟩
    simp only [List.length_append, List.length_singleton] at b2
    omega
theorem set_getD (m : List Bool) (i n : Nat) (hi : i < m.length) : (m.set i true).getD n false = if n = i then true else m.getD n false := by
  by_cases h : n = i
  · subst h; rw [if_pos rfl, List.getD_eq_getElem?_getD, List.getElem?_set_self hi]; rfl
  · rw [if_neg h, List.getD_eq_getElem?_getD, List.getElem?_set_ne (fun e => h e.symm), ← List.getD_eq_getElem?_getD]
/-- what is met is what was left, and what is on the way (S) -/
def MetIs (N : Nat) (m : List Bool) (o S : List Nat) : Prop := ∀ x, x < N → (m.getD x false = true ↔ x ∈ o ∨ x ∈ S)
theorem vis_met {N : Nat} {nb : Nat → List Int} {k : Nat} {m m' : List Bool} {o o' : List Nat} {l : List Int} (h : Vis N nb k m o l m' o') : ∀ S : List Nat, m.length = N → MetIs N m o S → (∀ x ∈ o, x < N) → o.Nodup → (∀ x ∈ S, x ∉ o) →
    MetIs N m' o' S ∧ (∀ x ∈ o', x < N) ∧ o'.Nodup ∧ (∀ x ∈ S, x ∉ o') ∧ (∀ n ∈ l, 0 ≤ n → n < (N : Int) → m'.getD n.toNat false = true) ∧ (∀ x ∈ o, x ∈ o') ∧ (∀ x ∈ o', x ∈ o ∨ (x : Int) ∈ l ∨ ∃ y ∈ o', (x : Int) ∈ nb y) := by
  induction h with
  | nil m o => intro S hm h1 h2 h3 h4; exact ⟨h1, h2, h3, h4, by simp, fun x hx => hx, fun x hx => .inl hx⟩
  | skip hn t ih =>
    intro S hm h1 h2 h3 h4
    obtain ⟨a1, a2, a3, a4, a5, a6, a7⟩ := ih S hm h1 h2 h3 h4
    rename_i k m m' o o' n l
    refine ⟨a1, a2, a3, a4, fun n' hn' h0 hN => ?_, a6, fun x hx => (a7 x hx).imp id (Or.imp (List.mem_cons_of_mem _) id)⟩
    rcases List.mem_cons.1 hn' with e | hn'
    · subst e
      have hlt : n'.toNat < N := by omega
      have hmt : m.getD n'.toNat false = true := by
        cases hb : m.getD n'.toNat false with
        | true => rfl
        | false => exact absurd ⟨h0, hN, hb⟩ hn
      rcases (h1 _ hlt).1 hmt with h | h
      · exact (a1 _ hlt).2 (.inl (a6 _ h))
      · exact (a1 _ hlt).2 (.inr h)
    · exact a5 n' hn' h0 hN
  | visit hn t1 t2 ih1 ih2 =>
    intro S hm h1 h2 h3 h4
    rename_i k1 k2 m m1 m' o o1 o' n l
    have hlt : n.toNat < N := by have := hn.1; have := hn.2.1; omega
    have hnm : m.getD n.toNat false = false := hn.2.2
    have hno : n.toNat ∉ o := fun h => by rw [(h1 _ hlt).2 (.inl h)] at hnm; cases hnm
    have hnS : n.toNat ∉ S := fun h => by rw [(h1 _ hlt).2 (.inr h)] at hnm; cases hnm
    have hm1 : MetIs N (m.set n.toNat true) o (n.toNat :: S) := fun x hx => by
      rw [set_getD m n.toNat x (by omega)]
      by_cases e : x = n.toNat
      · rw [if_pos e]; simp [e]
      · rw [if_neg e, h1 x hx]; simp [e]
    obtain ⟨a1, a2, a3, a4, a5, a6, a7⟩ := ih1 (n.toNat :: S) (by rw [List.length_set]; exact hm) hm1 h2 h3 (fun x hx => (List.mem_cons.1 hx).elim (fun e => e ▸ hno) (fun h => h4 x h))
    have hlen1 := (vis_len t1 (by rw [List.length_set]; exact hm)).1
    have hn1 : n.toNat ∉ o1 := a4 _ List.mem_cons_self
    have hm2 : MetIs N m1 (o1 ++ [n.toNat]) S := fun x hx => by
      rw [a1 x hx, List.mem_cons, List.mem_append, List.mem_singleton]
      exact ⟨fun h => h.elim (fun h => .inl (.inl h)) (fun h => h.elim (fun h => .inl (.inr h)) .inr), fun h => h.elim (fun h => h.elim .inl (fun h => .inr (.inl h))) (fun h => .inr (.inr h))⟩
    obtain ⟨b1, b2, b3, b4, b5, b6, b7⟩ := ih2 S hlen1 hm2 (fun x hx => (List.mem_append.1 hx).elim (a2 x) (fun h => by rw [List.mem_singleton.1 h]; exact hlt))
      (List.nodup_append.2 ⟨a3, by simp, fun x hx y hy => by rw [List.mem_singleton.1 hy]; exact fun e => hn1 (e ▸ hx)⟩)
      (fun x hx hxo => (List.mem_append.1 hxo).elim (fun h => a4 x (List.mem_cons_of_mem _ hx) h) (fun h => hnS (List.mem_singleton.1 h ▸ hx)))
    have hno' : n.toNat ∈ o' := b6 _ (List.mem_append_right _ (by simp))
    have hcast : ((n.toNat : Nat) : Int) = n := Int.toNat_of_nonneg hn.1
    refine ⟨b1, b2, b3, b4, fun n' hn' h0 hN => ?_, fun x hx => b6 x (List.mem_append_left _ (a6 x hx)), fun x hx => ?_⟩
    · rcases List.mem_cons.1 hn' with e | hn'
      · subst e; exact (b1 _ hlt).2 (.inl hno')
      · exact b5 n' hn' h0 hN
    · rcases b7 x hx with h | h | h
      · rcases List.mem_append.1 h with h | h
        · rcases a7 x h with h | h | ⟨y, hy, h⟩
          · exact .inl h
          · exact .inr (.inr ⟨n.toNat, hno', h⟩)
          · exact .inr (.inr ⟨y, b6 y (List.mem_append_left _ hy), h⟩)
        · exact .inr (.inl (by rw [List.mem_singleton.1 h, hcast]; exact List.mem_cons_self))
      · exact .inr (.inl (List.mem_cons_of_mem _ h))
      · exact .inr (.inr h)
theorem nbOf_len' (fb : List S54) : ∀ b, (nbOf fb b).length ≤ 2 := nbOf_len fb
/-- how the blocks are left -/
theorem left_is (fb : List S54) (hN : fb.length ≤ 1099511627776) (hf : fb ≠ []) : ∃ (k : Nat) (m' : List Bool) (o : List Nat), Vis fb.length (nbOf fb) k ((List.replicate fb.length false).set 0 true) [] (nbOf fb 0) m' o ∧ leftOf fb = some (o ++ [0]) := by
  have hpos : 0 < fb.length := List.length_pos_iff.2 hf
  have hc : ((List.replicate fb.length false).set 0 true).count false + 1 = fb.length := by
    have := count_set (List.replicate fb.length false) 0 (by simp [hpos])
    rw [this]; simp
  obtain ⟨k, m', o, hv, h1, h2, h3⟩ := vis_some fb.length (nbOf fb) (nbOf_len fb) _ (nbOf fb 0) ((List.replicate fb.length false).set 0 true) [] (by simp) (Nat.le_refl _)
  have hl0 := nbOf_len fb 0
  refine ⟨k, m', o, hv, ?_⟩
  have hrun := vis_run hv 0 0 (4 * fb.length + 4 - (k + 1)) [] rfl
  rw [lrun_nil, show k + 1 + (4 * fb.length + 4 - (k + 1)) = 4 * fb.length + 4 by omega, List.nil_append] at hrun
  have hlen := (vis_len hv (by simp)).2
  unfold leftOf
  rw [if_neg hf, hrun, if_pos ⟨rfl, hN, by simp only [List.length_append, List.length_singleton, List.length_nil] at hlen ⊢; omega⟩]
/-- the blocks as the walk leaves them: each once, the first one last, each other one behind some that is ahead of it -/
theorem left_facts (fb : List S54) (hN : fb.length ≤ 1099511627776) (hf : fb ≠ []) : ∃ o : List Nat, leftOf fb = some (o ++ [0]) ∧ (o ++ [0]).Nodup ∧ (∀ x ∈ o ++ [0], x < fb.length) ∧ (∀ x ∈ o, ∃ y ∈ o ++ [0], (x : Int) ∈ nbOf fb y) ∧ o.length + 1 ≤ fb.length := by
  have hpos : 0 < fb.length := List.length_pos_iff.2 hf
  obtain ⟨k, m', o, hv, hl⟩ := left_is fb hN hf
  obtain ⟨a1, a2, a3, a4, a5, a6, a7⟩ := vis_met hv [0] (by simp) (fun x hx => by
    rw [set_getD _ 0 x (by simp [hpos])]
    by_cases e : x = 0
    · rw [if_pos e]; simp [e]
    · rw [if_neg e]; simp [e, List.getD_eq_getElem?_getD, hx]) (by simp) (by simp) (by simp)
  have h0 : 0 ∉ o := a4 0 (by simp)
  have hc : ((List.replicate fb.length false).set 0 true).count false + 1 = fb.length := by
    have := count_set (List.replicate fb.length false) 0 (by simp [hpos])
    rw [this]; simp
  have hlen := (vis_len hv (by simp)).2
  rw [List.length_nil] at hlen
  refine ⟨o, hl, List.nodup_append.2 ⟨a3, by simp, fun x hx y hy => by rw [List.mem_singleton.1 hy]; exact fun e => h0 (e ▸ hx)⟩, fun x hx => (List.mem_append.1 hx).elim (a2 x) (fun h => by rw [List.mem_singleton.1 h]; exact hpos), fun x hx => ?_, by omega⟩
  rcases a7 x hx with h | h | ⟨y, hy, h⟩
  · cases h
  · exact ⟨0, by simp, h⟩
  · exact ⟨y, List.mem_append_left _ hy, h⟩
/-- going through blocks as the document's walk does: what was met, what was left (the last one first) -/
inductive RV (N : Nat) (nb : Nat → List Int) : Nat → List Nat → List Nat → List Int → List Nat → List Nat → Prop
  | nil (M L : List Nat) : RV N nb 0 M L [] M L
  | skip {k : Nat} {M L M' L' : List Nat} {n : Int} {l : List Int} (h : ¬ (0 ≤ n ∧ n < (N : Int) ∧ n.toNat ∉ M)) (t : RV N nb k M L l M' L') : RV N nb (k + 1) M L (n :: l) M' L'
  | visit {k1 k2 : Nat} {M L M1 L1 M' L' : List Nat} {n : Int} {l : List Int} (h : 0 ≤ n ∧ n < (N : Int) ∧ n.toNat ∉ M) (hb : M.length < 1099511627776) (hb2 : L1.length < 1099511627776)
      (t1 : RV N nb k1 (M ++ [n.toNat]) L (nb n.toNat) M1 L1) (t2 : RV N nb k2 M1 (n.toNat :: L1) l M' L') : RV N nb (k1 + k2 + 2) M L (n :: l) M' L'
theorem rv_split {N : Nat} {nb : Nat → List Int} {k : Nat} {M L M' L' : List Nat} {n : Int} {l : List Int} (h : RV N nb k M L (n :: l) M' L') : ∃ ka kb Mj Lj, RV N nb ka M L [n] Mj Lj ∧ RV N nb kb Mj Lj l M' L' ∧ ka ≤ k ∧ kb < k := by
  cases h with
  | skip h t => exact ⟨_, _, M, L, .skip h (.nil M L), t, by omega, by omega⟩
  | visit h hb hb2 t1 t2 => exact ⟨_, _, _, _, .visit h hb hb2 t1 (.nil _ _), t2, by omega, by omega⟩
theorem vis_rv {N : Nat} {nb : Nat → List Int} (hN : N ≤ 1099511627776) {k : Nat} {m m' : List Bool} {o o' : List Nat} {l : List Int} (h : Vis N nb k m o l m' o') : ∀ M : List Nat, m.length = N → (∀ x, x < N → (m.getD x false = true ↔ x ∈ M)) → M.length + m.count false = N → o.length + m.count false ≤ N →
    ∃ M' : List Nat, (∀ x, x < N → (m'.getD x false = true ↔ x ∈ M')) ∧ M'.length + m'.count false = N ∧ RV N nb k M o.reverse l M' o'.reverse := by
  induction h with
  | nil m o => intro M hm h1 h2 h3; exact ⟨M, h1, h2, .nil _ _⟩
  | skip hn t ih =>
    intro M hm h1 h2 h3
    obtain ⟨M', a1, a2, a3⟩ := ih M hm h1 h2 h3
    refine ⟨M', a1, a2, .skip (fun hh => hn ⟨hh.1, hh.2.1, ?_⟩) a3⟩
    have hlt := hh.1; have hlt2 := hh.2.1
    rw [Bool.eq_false_iff]
    exact fun e => hh.2.2 ((h1 _ (by omega)).1 e)
  | visit hn t1 t2 ih1 ih2 =>
    intro M hm h1 h2 h3
    rename_i k1 k2 m m1 m' o o1 o' n l
    have hlt : n.toNat < N := by have := hn.1; have := hn.2.1; omega
    have hnm : m.getD n.toNat false = false := hn.2.2
    have hc := okV_count hm hn
    have hl1 : (m.set n.toNat true).length = N := by rw [List.length_set]; exact hm
    obtain ⟨M1, a1, a2, a3⟩ := ih1 (M ++ [n.toNat]) hl1 (fun x hx => by
      rw [set_getD m n.toNat x (by omega), List.mem_append, List.mem_singleton]
      by_cases e : x = n.toNat
      · rw [if_pos e]; simp [e]
      · rw [if_neg e, h1 x hx]; simp [e]) (by rw [List.length_append, List.length_singleton]; omega) (by omega)
    obtain ⟨v1, v2⟩ := vis_len t1 hl1
    obtain ⟨M', b1, b2, b3⟩ := ih2 M1 v1 a1 a2 (by rw [List.length_append, List.length_singleton]; omega)
    refine ⟨M', b1, b2, .visit ⟨hn.1, hn.2.1, fun h => ?_⟩ (by omega) (by rw [List.length_reverse]; omega) a3 ?_⟩
    · rw [(h1 _ hlt).2 h] at hnm; cases hnm
    · rw [List.reverse_append] at b3; exact b3
/-- the walk from the first block on -/
theorem rv_all (fb : List S54) {XS : List Nat} (h : leftOf fb = some XS) : ∃ K M', RV fb.length (nbOf fb) K [] [] [0] M' XS.reverse := by
  by_cases hf : fb = []
  · subst hf
    unfold leftOf at h
    rw [if_pos rfl] at h
    obtain rfl := Option.some.inj h
    exact ⟨1, [], .skip (fun h => by have := h.1; have := h.2.1; simp at this) (.nil _ _)⟩
  · have hN := leftOf_n h
    have hpos : 0 < fb.length := List.length_pos_iff.2 hf
    obtain ⟨k, m', o, hv, hl⟩ := left_is fb hN hf
    obtain rfl := Option.some.inj (h.symm.trans hl)
    have hc : ((List.replicate fb.length false).set 0 true).count false + 1 = fb.length := by
      have := count_set (List.replicate fb.length false) 0 (by simp [hpos])
      rw [this]; simp
    obtain ⟨M', a1, a2, a3⟩ := vis_rv hN hv [0] (by simp) (fun x hx => by
      rw [set_getD _ 0 x (by simp [hpos])]
      by_cases e : x = 0
      · rw [if_pos e]; simp [e]
      · rw [if_neg e]; simp [e, List.getD_eq_getElem?_getD, hx]) (by rw [List.length_singleton]; omega) (by rw [List.length_nil]; omega)
    obtain ⟨v1, v2⟩ := vis_len hv (by simp)
    refine ⟨k + 0 + 2, M', .visit ⟨Int.le_refl 0, by omega, by simp⟩ (by simp) (by rw [List.length_reverse]; rw [List.length_nil] at v2; omega) a3 ?_⟩
    rw [List.reverse_append]
    exact .nil _ _
/-- the walk's state: which blocks were met, which were left -/
structure WS (D g : Nat) (T : Nat → Prop) (X : World) (M L : List Nat) (vM vL : Value) : Prop where
  tg : T g
  blk : X.heap[g]? = some (.cells #[vM, vL] 47 (0, 0))
  met : Kd.R (Kd.int .i64) 3 X D (fun k => T k ∧ k ≠ g ∧ some k ≠ vL.ownBlock) vM (ints M)
  lft : Kd.R (Kd.int .i64) 3 X D (fun k => T k ∧ k ≠ g ∧ some k ≠ vM.ownBlock) vL (ints L)
  lt : ∀ k, T k → k < X.heap.size
  ge : ∀ k, T k → D ≤ k
  bM : M.length ≤ 1099511627776
  bL : L.length ≤ 1099511627776
theorem WS.hold {D g : Nat} {T : Nat → Prop} {X X' : World} {M L : List Nat} {vM vL : Value} (h : WS D g T X M L vM vL) (hh : Hold T X X') : WS D g T X' M L vM vL :=
  ⟨h.tg, (hh.block _ h.tg).trans h.blk, hh.row h.met (fun k hk => hk.1), hh.row h.lft (fun k hk => hk.1), fun k hk => Nat.lt_of_lt_of_le (h.lt k hk) hh.size, h.ge, h.bM, h.bL⟩
theorem WS.below {D g : Nat} {T : Nat → Prop} {X X' : World} {M L : List Nat} {vM vL : Value} (h : WS D g T X M L vM vL) (hh : Below X.heap.size X X') : WS D g T X' M L vM vL := h.hold (Hold.of_below hh h.lt)
theorem mem_ints {L : List Nat} {n : Int} (h : 0 ≤ n) : n ∈ ints L ↔ n.toNat ∈ L := by
  unfold ints
  rw [List.mem_map]
  refine ⟨fun ⟨y, hy, e⟩ => ?_, fun hh => ⟨n.toNat, hh, Int.toNat_of_nonneg h⟩⟩
  have : n.toNat = y := by omega
  exact this ▸ hy
/-- what a walk comes to -/
def WPost (D g : Nat) (T : Nat → Prop) (X : World) (M' L' : List Nat) (X' : World) : Prop :=
  ∃ T' vM' vL', (∀ k, T' k → (T k ∨ X.heap.size ≤ k) ∧ k < X'.heap.size) ∧ Keep T X X' ∧ WS D g T' X' M' L' vM' vL'
/-- a block more was met -/
theorem WS.push {D g S : Nat} {T : Nat → Prop} {X W w1 : World} {M L : List Nat} {vM vL v1 : Value} {n : Nat} (h : WS D g T X M L vM vL) (hS1 : X.heap.size ≤ S) (hSW : S ≤ W.heap.size) (hK : Hold T X W) (hg : W.grownBy w1 vM.ownBlock)
    (hR : Kd.R (Kd.int .i64) 3 w1 D (fun k => (T k ∨ S ≤ k) ∧ k ≠ g ∧ some k ≠ vL.ownBlock) v1 (ints (M ++ [n]))) (hat : v1.ownBlock = vM.ownBlock ∨ ∃ b, v1.ownBlock = some b ∧ W.heap.size ≤ b) (hb : M.length < 1099511627776) :
    WS D g (fun k => (T k ∨ S ≤ k) ∧ k < w1.heap.size) (w1.setCell ⟨g, 0, none⟩ v1) (M ++ [n]) L v1 vL := by
  have hgT := h.lt g h.tg
  have hsz := hg.size
  have hne : some g ≠ vM.ownBlock := fun e => (h.met.1 g e.symm).2.1 rfl
  have hl : ∀ k, T k → k < W.heap.size := fun k hk => by have := h.lt k hk; omega
  have hh : Hold (fun k => T k ∧ k ≠ g ∧ some k ≠ vM.ownBlock) X (w1.setCell ⟨g, 0, none⟩ v1) := ((hK.mono (fun k hk => hk.1)).grown hg (fun k hk => hl k hk.1) (fun k hk => hk.2.2)).setCell ⟨g, 0, none⟩ _ (fun hk => hk.2.1 rfl)
  have hb1 : w1.heap[g]? = some (.cells #[vM, vL] 47 (0, 0)) := (hg.block g (by omega) hne).trans ((hK.block g h.tg).trans h.blk)
  have hset : ∀ (p : Addr) (u : Value), (w1.setCell p u).heap.size = w1.heap.size := fun p u => by simp [World.setCell]
  refine ⟨⟨.inl h.tg, by omega⟩, by simpa using blk_set hb1 0 v1, ?_, ?_, ?_, ?_, ?_, h.bL⟩
  · refine Kd.R_mono (Kd.R_far (p := ⟨g, 0, none⟩) (Kd.R_bound hR) (fun k hk => hk.1.2.1) _) (fun k hk => ⟨⟨hk.1.1, hk.2.2.1⟩, hk.1.2.1, hk.1.2.2⟩)
  · refine Kd.R_mono (hh.row h.lft (fun k hk => hk)) (fun k hk => ⟨⟨.inl hk.1, by have := h.lt k hk.1; omega⟩, hk.2.1, ?_⟩)
    rcases hat with e | ⟨b, e, hle⟩
    · rw [e]; exact hk.2.2
    · rw [e]
      intro e2
      have e3 : k = b := Option.some.inj e2
      have := h.lt k hk.1
      omega
  · intro k hk; rw [hset]; exact hk.2
  · intro k hk
    rcases hk.1 with h1 | h1
    · exact h.ge k h1
    · have := h.ge g h.tg; omega
  · rw [List.length_append, List.length_singleton]; omega
/-- a block more was left -/
theorem WS.put {D g S : Nat} {T : Nat → Prop} {X w1 : World} {M L : List Nat} {vM vL v1 : Value} {n : Nat} (h : WS D g T X M L vM vL) (hS1 : X.heap.size ≤ S) (hSW : S ≤ w1.heap.size) (hK : Hold T X w1)
    (hR : Kd.R (Kd.int .i64) 3 w1 D (fun k => S ≤ k) v1 (ints (n :: L))) (hb : L.length < 1099511627776) :
    WS D g (fun k => (T k ∨ S ≤ k) ∧ k < w1.heap.size) (w1.setCell ⟨g, 1, none⟩ v1) M (n :: L) vM v1 := by
  have hgT := h.lt g h.tg
  have hh : Hold (fun k => T k ∧ k ≠ g) X (w1.setCell ⟨g, 1, none⟩ v1) := (hK.mono (fun k hk => hk.1)).setCell ⟨g, 1, none⟩ _ (fun hk => hk.2 rfl)
  have hb1 : w1.heap[g]? = some (.cells #[vM, vL] 47 (0, 0)) := (hK.block g h.tg).trans h.blk
  have hset : ∀ (p : Addr) (u : Value), (w1.setCell p u).heap.size = w1.heap.size := fun p u => by simp [World.setCell]
  have hown : ∀ k, T k → some k ≠ v1.ownBlock := fun k hk e => by
    have h1 : S ≤ k := hR.1 k e.symm
    have := h.lt k hk
    omega
  refine ⟨⟨.inl h.tg, by omega⟩, by simpa using blk_set hb1 1 v1, ?_, ?_, ?_, ?_, h.bM, ?_⟩
  · exact Kd.R_mono (hh.row h.met (fun k hk => ⟨hk.1, hk.2.1⟩)) (fun k hk => ⟨⟨.inl hk.1, by have := h.lt k hk.1; omega⟩, hk.2.1, hown k hk.1⟩)
  · refine Kd.R_mono (Kd.R_far (p := ⟨g, 1, none⟩) (Kd.R_bound hR) (fun k hk => by have := hk.1; show k ≠ g; omega) _) (fun k hk => ⟨⟨.inr hk.1, hk.2.2.1⟩, by have := hk.1; omega, fun e => ?_⟩)
    have := (h.met.1 k e.symm).1
    have := h.lt k this
    have := hk.1
    omega
  · intro k hk; rw [hset]; exact hk.2
  · intro k hk
    rcases hk.1 with h1 | h1
    · exact h.ge k h1
    · have := h.ge g h.tg; omega
  · rw [List.length_cons]; omega
theorem rv_visit {N : Nat} {nb : Nat → List Int} {K : Nat} {M L M' L' : List Nat} {n : Int} (h : RV N nb K M L [n] M' L') (hn : 0 ≤ n ∧ n < (N : Int) ∧ n.toNat ∉ M) :
    ∃ k1 L1, k1 < K ∧ M.length < 1099511627776 ∧ L1.length < 1099511627776 ∧ RV N nb k1 (M ++ [n.toNat]) L (nb n.toNat) M' L1 ∧ L' = n.toNat :: L1 := by
  cases h with
  | skip h t => exact absurd hn h
  | visit h hb hb2 t1 t2 =>
    cases t2
    exact ⟨_, _, by omega, hb, hb2, t1, rfl⟩
set_option maxHeartbeats 8000000 in
set_option maxRecDepth 100000 in
theorem walk_calls (w : World) (a0 : Int) (A : Option Addr) (c : Nat) (fb : List S54) (hC : Kd.C k54 w A fb.length fb) (hc : fb.length ≤ c) (D g : Nat) (hD : w.heap.size ≤ D) : ∀ (K : Nat) (n : Int) (M L M' L' : List Nat), RV fb.length (nbOf fb) K M L [n] M' L' →
    ∀ (T : Nat → Prop) (X : World) (vM vL : Value), WS D g T X M L vM vL → Below w.heap.size w X →
      Calls Try.prog 26 #[.pointer (some ⟨g, 0, none⟩), .agg #[.int .i64 a0, .slice A fb.length c], .int .i64 n] X fun e X' => e = .returned (.tuple #[]) ∧ WPost D g T X M' L' X' := by
  intro K
  induction K using Nat.strongRecOn with
  | _ K ih =>
    intro n M L M' L' hrv T X vM vL hS hB
    have hu24 := Try.underlying24
    have hu52 := Try.underlying47
    obtain ⟨AM, cM, rfl, hcM, hCM⟩ := Kd.R_reads hS.met
    obtain ⟨AL, cL, rfl, hcL, hCL⟩ := Kd.R_reads hS.lft
    obtain ⟨X1, hX1⟩ : ∃ X1, X.alloc (.cells #[.int .i64 a0, .slice A fb.length c] 24) = X1 := ⟨_, rfl⟩
    have hB1 : Below X.heap.size X X1 := by rw [← hX1]; exact below_alloc (Below.refl _ _) _
    have hS1 := Aside0.mk (hS.below hB1)
    have hs1 : X1.heap.size = X.heap.size + 1 := by rw [← hX1]; simp
    have hbox : X1.heap[X.heap.size]? = some (.cells #[.int .i64 a0, .slice A fb.length c] 24 (0, 0)) := by rw [← hX1]; exact heap_alloc_new X _
    have q0 : X1.cell? ⟨g, 0, none⟩ = some (.slice AM (ints M).length cM) := (blk_cell hS1.out.blk 0).trans rfl
    have q1 : X1.cell? ⟨g, 1, none⟩ = some (.slice AL (ints L).length cL) := (blk_cell hS1.out.blk 1).trans rfl
    have b0 : X1.cell? ⟨X.heap.size, 0, none⟩ = some (.int .i64 a0) := (blk_cell hbox 0).trans rfl
    have b1 : X1.cell? ⟨X.heap.size, 1, none⟩ = some (.slice A fb.length c) := (blk_cell hbox 1).trans rfl
    have hlt := hS.lt
    have hS' := Aside0.mk hS
    have hB' := Aside0.mk hB
    have hlt' := Aside0.mk hlt
    have hs1' := Aside0.mk hs1
    have hrv' := Aside0.mk hrv
    have hX1' := Aside0.mk hX1
    have hB1' := Aside0.mk hB1
    have hbox' := Aside0.mk hbox
    clear hS hB hlt hs1 hrv hB1 hbox
    have hdone : ∀ nd, ¬ (0 ≤ n ∧ n < (fb.length : Int) ∧ n.toNat ∉ M) → WPost D g T X M' L' (X1.drewN nd) := fun nd hn => by
      have hS1d := hS1.out.hold (Hold.drewN (Hold.refl T X1) nd)
      have hK := Hold.drewN (Keep.of_below (T := T) hB1'.out) nd
      cases hrv'.out with
      | skip h t => cases t; exact ⟨T, _, _, fun k hk => ⟨.inl hk, hS1d.lt k hk⟩, hK, hS1d⟩
      | visit h hb hb2 t1 t2 => exact absurd h hn
    go_enter Try.func26, Try.ntmps26
    by_cases h0 : n < 0
    · have h0' := Aside0.mk h0
      have d0 : decide (n < 0) = true := decide_eq_true h0
      go_wp2
      refine bodyPost_ret (results_none rfl _ _ _) rfl ?_
      exact ⟨rfl, hdone 0 (fun h => by omega)⟩
    · have d0 : decide (n < 0) = false := decide_eq_false h0
      by_cases h1 : n ≥ (fb.length : Int)
      · have d1 : decide (n ≥ (fb.length : Int)) = true := decide_eq_true h1
        go_wp2
        refine bodyPost_ret (results_none rfl _ _ _) rfl ?_
        exact ⟨rfl, hdone 0 (fun h => by omega)⟩
      · have d1 : decide (n ≥ (fb.length : Int)) = false := decide_eq_false h1
        obtain ⟨kh, ehas⟩ := has_ev (ints M) (by rw [ints_length]; have := hS1.out.bM; omega) n
        have ehas' := Aside0.mk (ehas kh (Nat.le_refl _))
        have hS1m := Aside0.mk hS1.out.met
        clear ehas
        by_cases h2 : n.toNat ∈ M
        · have e2 : decide (n ∈ ints M) = true := decide_eq_true ((mem_ints (by omega)).2 h2)
          rw [e2] at ehas'
          go_wp2_with (first | (go_at_call 12; (with_reducible refine (hallmarkref07_Has.calls kh _ _ (ints M) n true _ ?side1 ?side2 ehas'.out).mono ?_); (case side1 => exact (Kd.R_reads' hS1m.out).2.2); (case side2 => exact (Kd.R_reads' hS1m.out).2.1); rintro e w' ⟨rfl, ⟨nd, rfl⟩⟩))
          refine bodyPost_ret (results_none rfl _ _ _) rfl ?_
          exact ⟨rfl, hdone _ (fun h => h.2.2 h2)⟩
        · have e2 : decide (n ∈ ints M) = false := decide_eq_false (fun h => h2 ((mem_ints (by omega)).1 h))
          rw [e2] at ehas'
          obtain ⟨kq, L1, hkq, hb1m, hb1l, hrv1, rfl⟩ := rv_visit hrv'.out ⟨by omega, by omega, h2⟩
          have hb1m' := Aside0.mk hb1m
          have hb1l' := Aside0.mk hb1l
          have hkq' := Aside0.mk hkq
          have hgD := hS'.out.ge g hS'.out.tg
          have hgX := hlt'.out g hS'.out.tg
          have hBD : Below D X X1 := hB1'.out.mono (by omega)
          have hgX' := Aside0.mk hgX
          have hgD' := Aside0.mk hgD
          have hLw := Aside0.mk (hS'.out.lft.1)
          have hBD' := Aside0.mk hBD
          clear hb1m hBD hgD hgX hb1l hkq
          obtain ⟨M2, hM2⟩ : ∃ M2, M ++ [n.toNat] = M2 := ⟨_, rfl⟩
          have hnM : ints M ++ [n] = ints M2 := by rw [← hM2, ints_snoc, Int.toNat_of_nonneg (by omega)]
          have hnM' := Aside0.mk hnM
          have hM2' := Aside0.mk hM2
          rw [hM2] at hrv1
          have hrv1' := Aside0.mk hrv1
          clear hrv1
          have hlti := Aside0.mk (show n < (fb.length : Int) by omega)
          have hge0 := Aside0.mk (show 0 ≤ n by omega)
          clear hnM hM2
          go_wp2_with (first
            | (go_at_call 12; (with_reducible refine (hallmarkref07_Has.calls kh _ _ (ints M) n false _ ?side1 ?side2 ehas'.out).mono ?_); (case side1 => exact (Kd.R_reads' hS1m.out).2.2); (case side2 => exact (Kd.R_reads' hS1m.out).2.1); rintro e w' ⟨rfl, ⟨nd, rfl⟩⟩)
            | (with_reducible refine gate_builtin (b := .append) (xs := #[.tmp 29, .tmp 31]) rfl ?_
               at_builtin
               refine Aside0.out ?_))
          refine ⟨?_⟩
          refine Kd.R_append (Kd.int .i64) (w0 := X) D rfl (.tmp 29) (.tmp 31) 26 3 (.int .i64 0) 8 rfl Try.underlying26 info3 rfl (by decide) (by omega) (.slice AM (ints M).length cM) (ints M) n [.int .i64 n] (fun k => (T k ∨ X1.heap.size ≤ k) ∧ k ≠ g ∧ some k ≠ (.slice AL (ints L).length cL : Value).ownBlock) (fun _ => False) rfl rfl rfl (fun _ hk => hk.elim) ?aF ?aO ?aB ?aS ?aL ?_
          case aF =>
            intro k hk
            have hk : X1.heap.size ≤ k := hk
            have e1 := hs1'.out
            have e2 := hgX'.out
            exact ⟨.inr hk, by omega, fun e => by have := hlt'.out k (hLw.out k e.symm).1; omega⟩
          case aO => exact Kd.R_mono (Kd.R_drewN hS1m.out _) (fun k hk => ⟨.inl hk.1, hk.2⟩)
          case aB => exact pw_below_drewN hBD'.out _
          case aS =>
            have e1 := hs1'.out
            have e2 := hgX'.out
            have e3 := hgD'.out
            show D ≤ X1.heap.size
            omega
          case aL => rw [ints_length]; have := hb1m'.out; omega
          intro v1 w1 ho hb hg hat
          have hSW := hs1'.out
          have hgX := hgX'.out
          have hgD := hgD'.out
          rw [hnM'.out] at ho
          have hS2 := WS.push (n := n.toNat) (S := X1.heap.size) (W := X1.drewN _) hS1.out (Nat.le_refl _) (Nat.le_refl _) (Hold.drewN (Hold.refl T X1) _) hg (by rw [hM2'.out]; exact ho) hat hb1m'.out
          rw [hM2'.out] at hS2
          have hK2 : Keep T X (w1.setCell ⟨g, 0, none⟩ v1) := ((Hold.drewN (Keep.of_below hB1'.out) _).grown hg (fun k hk => by have := hk.1; show k < X1.heap.size; omega) (fun k hk e => hk.2 (hS'.out.met.1 k e.symm).1)).setCell ⟨g, 0, none⟩ v1 (fun h => h.2 hS'.out.tg)
          have hbox1 : w1.heap[X.heap.size]? = some (.cells #[.int .i64 a0, .slice A fb.length c] 24 (0, 0)) := (hg.block X.heap.size (by show X.heap.size < X1.heap.size; omega) (fun e => by have := hlt'.out _ (hS'.out.met.1 _ e.symm).1; omega)).trans hbox'.out
          have hbox2 : (w1.setCell ⟨g, 0, none⟩ v1).heap[X.heap.size]? = some (.cells #[.int .i64 a0, .slice A fb.length c] 24 (0, 0)) := (Below.heap_setCell w1 ⟨g, 0, none⟩ v1 X.heap.size (by show X.heap.size ≠ g; omega)).trans hbox1
          have hgb1 : w1.heap[g]? = some (.cells #[.slice AM (ints M).length cM, .slice AL (ints L).length cL] 47 (0, 0)) := (hg.block g (by show g < X1.heap.size; omega) (fun e => (hS'.out.met.1 g e.symm).2.1 rfl)).trans hS1.out.blk
          have qg := (blk_cell hgb1 0)
          have qf := blk_frozen hgb1 0
          obtain ⟨A2, c2, rfl⟩ := Kd.R_slice ho
          obtain ⟨X2, hX2⟩ : ∃ X2, w1.setCell ⟨g, 0, none⟩ (.slice A2 (ints M2).length c2) = X2 := ⟨_, rfl⟩
          rw [hX2] at hS2 hK2 hbox2
          have hBX2 : Below w.heap.size w X2 := hB'.out.trans (Keep.below hK2 (by omega) (fun k hk => by have := hS'.out.ge k hk; omega))
          obtain ⟨T2, hT2⟩ : ∃ T2, (fun k => (T k ∨ X1.heap.size ≤ k) ∧ k < w1.heap.size) = T2 := ⟨_, rfl⟩
          have hTT : ∀ k, T2 k → (T k ∨ X1.heap.size ≤ k) ∧ k < X2.heap.size := fun k hk => by
            rw [← hT2] at hk
            exact ⟨hk.1, by rw [← hX2]; simpa [World.setCell] using hk.2⟩
          rw [hT2] at hS2
          have hCX := Kd.C_below hC hBX2
          obtain ⟨ad, A0, c0, A1', c1, A6, c6, A7, c7, rfl, k0, k1, k2, k3, k4, k5, k6, k7, f0, g0, f1, g1, f2, g2, f3, g3⟩ := at_T54 hCX n hge0.out hlti.out
          obtain ⟨kn, hkn⟩ := next_ev (rd_T54 fb n)
          have hnx : nxS (rd_T54 fb n) = nbOf fb n.toNat := by rw [nbOf_nxS, Int.toNat_of_nonneg hge0.out]
          rw [hnx] at hkn
          have hkn' := Aside0.mk (hkn kn (Nat.le_refl _))
          have qb := (blk_cell hbox2 1)
          have z0 := hge0.out
          have z1 := hlti.out
          have hS2' := Aside0.mk hS2
          have hK2' := Aside0.mk hK2
          have hTT' := Aside0.mk hTT
          have hbox2' := Aside0.mk hbox2
          have hBX2' := Aside0.mk hBX2
          clear hkn hS2 hK2 hTT hbox2 hBX2 hT2 hgb1 hbox1 hCX ho hb hg hat hSW hgD
          go_wp2_with (first
            | (go_at_call 33; refine Aside0.out ?_))
          refine ⟨?_⟩
          refine (hallmarkref07_Next.calls kn A0 c0 _ A1' c1 _ _ _ _ _ A6 c6 _ A7 c7 _ (nbOf fb n.toNat) _ g0 f0 g1 f1 g2 f2 g3 f3 hkn'.out).mono ?_
          rintro e w2 ⟨v6, rfl, hR6, hB6⟩
          have hS3' := Aside0.mk (hS2'.out.below hB6)
          have hR6' := Aside0.mk hR6
          have hB6' := Aside0.mk hB6
          clear hR6 hB6 k0 k1 k2 k3 k4 k5 k6 k7 f0 g0 f1 g1 f2 g2 f3 g3 qb qg qf q0 q1 b0 b1
          go_simp
          go_wp2
          go_loopg [7] kq (fun gk v7 Y => ∃ (i : Nat) (Mi Li : List Nat) (Ti : Nat → Prop) (vMi vLi : Value), v7 = .int .i64 (i : Int) ∧ Aside0 (RV fb.length (nbOf fb) gk Mi Li ((nbOf fb n.toNat).drop i) M' L1) ∧ Aside0 (gk ≤ kq ∧ i ≤ 2) ∧ Aside0 (∀ k, Ti k → (T2 k ∨ w2.heap.size ≤ k) ∧ k < Y.heap.size) ∧ Aside0 (Keep T2 w2 Y) ∧ Aside0 (WS D g Ti Y Mi Li vMi vLi))
          case atStart =>
            exact ⟨0, M2, L, T2, _, _, rfl, ⟨by rw [List.drop_zero]; exact hrv1'.out⟩, ⟨Nat.le_refl _, by omega⟩, ⟨fun k hk => ⟨.inl hk, hS3'.out.lt k hk⟩⟩, ⟨Hold.refl _ _⟩, hS3'⟩
          case round =>
            obtain ⟨i, Mi, Li, Ti, vMi, vLi, rfl, hrvi, hgi, hTi, hKi, hSi⟩ := hrel
            have hYs := hKi.out.size
            have hXs : X1.heap.size ≤ X2.heap.size := by have h1 := hs1'.out; have h2 := hK2'.out.size; have h3 := blk_lt hbox2'.out; omega
            have hR6y := Kd.R_move (w1 := wr) (Kd.R_bound hR6'.out) (fun k hk => hKi.out.block k ⟨hk.2.2.1, fun h => by have := (hTT'.out k h).2; have := hk.2.1; omega⟩)
            have hboxY : wr.heap[X.heap.size]? = some (.cells #[.int .i64 a0, .slice (some ad) fb.length c] 24 (0, 0)) := (hKi.out.block X.heap.size ⟨by have := hB6'.out.size; have := blk_lt hbox2'.out; omega, fun h => by
              rcases (hTT'.out _ h).1 with h1 | h1
              · have := hlt'.out _ h1; omega
              · have := hs1'.out; omega⟩).trans ((hB6'.out.block _ (blk_lt hbox2'.out)).trans hbox2'.out)
            obtain ⟨A6', c6', rfl, hc6, hC6⟩ := Kd.R_reads hR6y
            have hBy : Below w.heap.size w wr := hBX2'.out.trans ((hB6'.out.mono hBX2'.out.size).trans (Keep.below hKi.out (by have := hBX2'.out.size; have := hB6'.out.size; omega) (fun k hk => by
              have h1 := hS2'.out.ge k hk
              omega)))
            have qb0 := (blk_cell hboxY 0)
            have qb1 := (blk_cell hboxY 1)
            have hbx' := Aside0.mk hboxY
            have hBy' := Aside0.mk hBy
            have hYs' := Aside0.mk hYs
            have hXs' := Aside0.mk hXs
            clear hR6y hboxY hBy hYs hXs
            by_cases hi : i < (nbOf fb n.toNat).length
            · have d5 : decide ((i : Int) < ((nbOf fb n.toNat).length : Int)) = true := decide_eq_true (by omega)
              obtain ⟨ad6, rfl, q6⟩ := Kd.at_int hC6 (i : Int) (by omega) (by omega)
              simp only [Int.toNat_natCast] at q6
              have hdr : (nbOf fb n.toNat).drop i = rd (nbOf fb n.toNat) (i : Int) :: (nbOf fb n.toNat).drop (i + 1) := by
                rw [rd_nat _ _ hi]; exact List.drop_eq_getElem_cons hi
              obtain ⟨nn, hnn⟩ : ∃ nn, rd (nbOf fb n.toNat) (i : Int) = nn := ⟨_, rfl⟩
              rw [hnn] at hdr q6
              have hrvi2 := hrvi.out
              rw [hdr] at hrvi2
              obtain ⟨ka, kb, Mj, Lj, hra, hrb, hka, hkb⟩ := rv_split hrvi2
              have hra' := Aside0.mk hra
              have hrb' := Aside0.mk hrb
              have hka' := Aside0.mk hka
              have hkb' := Aside0.mk hkb
              have g5 : (i : Int) < ((nbOf fb n.toNat).length : Int) := by omega
              clear hdr hrvi2 hra hrb hka hkb hnn
              have hSd := Aside0.mk (hSi.out.hold (Hold.drew (Hold.refl Ti wr)))
              have hBd : Aside0 (Below w.heap.size w wr.drew) := ⟨⟨hBy'.out.os, hBy'.out.tape, hBy'.out.output, hBy'.out.size, hBy'.out.block⟩⟩
              have hkaK : Aside0 (ka < K) := ⟨by have h1 := hka'.out; have h2 := hgi.out.1; have h3 := hkq'.out; omega⟩
              go_wp2
              go_region_with (go_at_call 26; refine (ih ka hkaK.out nn Mi Li Mj Lj hra'.out Ti _ vMi vLi hSd.out hBd.out).mono ?_; rintro e w3 ⟨rfl, hP3⟩)
              all_goals
                obtain ⟨Tj, vMj, vLj, hTj, hKj, hSj⟩ := hP3
                have hTj' := Aside0.mk hTj
                have hKj' := Aside0.mk hKj
                have hSj' := Aside0.mk hSj
                clear hTj hKj hSj
                have e5 := Aside0.mk (w_nat i (Nat.lt_of_le_of_lt hgi.out.2 (by decide)))
                go_simp
                go_wp2
                go_roundg kb
                case measure => exact hkb'.out
                case rel =>
                  refine ⟨i + 1, Mj, Lj, Tj, vMj, vLj, by rw [e5.out], hrb', ⟨by have h1 := hgi.out.1; have h2 := hkb'.out; omega, by have h3 := nbOf_len fb n.toNat; omega⟩, ⟨fun k hk => ⟨?_, (hTj'.out k hk).2⟩⟩, ⟨?_⟩, hSj'⟩
                  · rcases (hTj'.out k hk).1 with h1 | h1
                    · exact (hTi.out k h1).1
                    · exact .inr (Nat.le_trans hYs'.out h1)
                  · exact hKi.out.then_ (Hold.trans (Hold.drew (Hold.refl _ wr)) hKj'.out) (fun k hk => (hTi.out k hk).1)
            · have d5 : decide ((i : Int) < ((nbOf fb n.toNat).length : Int)) = false := decide_eq_false (by omega)
              have hrvi2 := hrvi.out
              rw [List.drop_of_length_le (by omega)] at hrvi2
              cases hrvi2
              obtain ⟨AMi, cMi, rfl⟩ := Kd.R_slice hSi.out.met
              obtain ⟨ALi, cLi, rfl, hcLi, hCLi⟩ := Kd.R_reads hSi.out.lft
              have hS8 := hSi.out.below (below_alloc (Below.refl _ _) (.cells #[.int .i64 n] 3))
              have r1 := blk_cell hS8.blk 1
              have r1f := blk_frozen hS8.blk 1
              have hCLi' := Aside0.mk hCLi
              have hS8' := Aside0.mk hS8
              clear hCLi hS8
              go_wp2_with (first
                | (with_reducible refine gate_builtin (b := .append) (xs := #[.tmp 56, .tmp 60]) rfl ?_
                   at_builtin
                   refine Aside0.out ?_))
              refine ⟨?_⟩
              have hDw : D ≤ wr.heap.size := by have := hSi.out.ge g hSi.out.tg; have := hSi.out.lt g hSi.out.tg; omega
              have hlit : Kd.R (Kd.int .i64) 3 (wr.alloc (.cells #[.int .i64 n] 3)) D (fun k => wr.heap.size ≤ k) (.slice (some ⟨wr.heap.size, 0, none⟩) 1 1) [n] :=
                Kd.R_of_own (enc := fun x : Int => .int .i64 x) (h1 := fun _ => rfl) (xs := [n]) (World.ownsRow_lit (base := D) (e := 3) (size := 1) wr #[.int .i64 n] 1 hDw (by decide) rfl) (fun k hk => by
                  have : wr.heap.size = k := by simpa [Value.ownBlock] using hk
                  omega)
              have hB8 : Below D wr (wr.alloc (.cells #[.int .i64 n] 3)) := (below_alloc (Below.refl wr.heap.size wr) _).mono hDw
              refine Kd.R_append_rows (Kd.int .i64) (w0 := wr) D rfl (.tmp 56) (.tmp 60) 26 3 (.int .i64 0) 8 rfl Try.underlying26 info3 rfl (by decide) (by omega) (.slice (some ⟨wr.heap.size, 0, none⟩) 1 1) [n] (ints L1) ALi (ints L1).length cLi (fun k => wr.heap.size ≤ k) (fun _ => False) rfl rfl hlit ?aR (fun _ _ h => h) (fun _ h => h.elim) ?aF hB8 ?aS ?aL ?_
              case aR => exact (Kd.R_reads' hS8'.out.lft).2.2
              case aF => intro k hk; have hk : (wr.alloc (.cells #[.int .i64 n] 3)).heap.size ≤ k := hk; simp at hk; show wr.heap.size ≤ k; omega
              case aS => simp; omega
              case aL => rw [ints_length]; have := hb1l'.out; simp only [List.length_cons, List.length_nil]; omega
              intro v9 w9 ho hb9 hg9 hat9
              have hh : Hold (fun k => k < wr.heap.size) wr w9 := (Hold.of_below (below_alloc (Below.refl _ _) _) (fun k hk => hk)).grown hg9 (fun k hk => by simp; omega) (fun k hk e => by
                have : k = wr.heap.size := by simpa [Value.ownBlock] using e
                omega)
              have hgw := hSi.out.lt g hSi.out.tg
              have ho2 : Kd.R (Kd.int .i64) 3 w9 D (fun k => wr.heap.size ≤ k) v9 (ints (n.toNat :: L1)) := by
                have e : ints (n.toNat :: L1) = [n] ++ ints L1 := by
                  show ((n.toNat : Nat) : Int) :: ints L1 = n :: ints L1
                  rw [Int.toNat_of_nonneg hge0.out]
                rw [e]; exact ho
              have hS9 := WS.put (S := wr.heap.size) hSi.out (Nat.le_refl _) hh.size (hh.mono hSi.out.lt) ho2 hb1l'.out
              have hgb9 := (hh.block g hgw).trans hSi.out.blk
              have qg9 := blk_cell hgb9 1
              have qf9 := blk_frozen hgb9 1
              have hKc : Keep Ti wr (w9.setCell ⟨g, 1, none⟩ v9) := (hh.mono (fun k hk => hk.1)).setCell ⟨g, 1, none⟩ v9 (fun h => h.2 hSi.out.tg)
              have hT2T : ∀ k, T2 k → T k ∨ X.heap.size ≤ k := fun k hk => by
                rcases (hTT'.out k hk).1 with h1 | h1
                · exact .inl h1
                · have := hs1'.out; exact .inr (by omega)
              have hws : X.heap.size ≤ w2.heap.size := Nat.le_trans hK2'.out.size hB6'.out.size
              have hTiT : ∀ k, Ti k → T k ∨ X.heap.size ≤ k := fun k hk => by
                rcases (hTi.out k hk).1 with h1 | h1
                · exact hT2T k h1
                · exact .inr (Nat.le_trans hws h1)
              have hKall : Keep T X (w9.setCell ⟨g, 1, none⟩ v9) := ((hK2'.out.then_ (Keep.of_below hB6'.out) hT2T).then_ hKi.out hT2T).then_ hKc hTiT
              have hP : WPost D g T X M' (n.toNat :: L1) (w9.setCell ⟨g, 1, none⟩ v9) := ⟨_, _, _, fun k hk => ⟨hk.1.elim (hTiT k) (fun h => .inr (Nat.le_trans hws (Nat.le_trans hYs'.out h))), hS9.lt k hk⟩, hKall, hS9⟩
              obtain ⟨A9, c9, rfl⟩ := Kd.R_slice ho2
              have hP' := Aside0.mk hP
              clear hP hKall hKc hS9 hgb9 ho2 hh ho hb9 hg9 hat9
              go_wp2
              go_end0
              exact ⟨rfl, hP'.out⟩
def hallmarkref07_Order.f (a0_0 : Int) (l0_1 : List (S54)) : Option (List Int) := (leftOf l0_1).map (fun o => (ints o).reverse)
set_option maxHeartbeats 8000000 in
set_option maxRecDepth 100000 in
theorem hallmarkref07_Order.calls (a0_0 : Int) (A0_1 : Option Addr) (c0_1 : Nat) (l0_1 : List (S54)) (r : List Int) (w : World) (hr0_1 : Kd.C k54 w A0_1 l0_1.length l0_1) (hc0_1 : l0_1.length ≤ c0_1) (h : hallmarkref07_Order.f a0_0 l0_1 = some r) :
    Calls Try.prog 11 #[.agg #[.int .i64 a0_0, .slice A0_1 l0_1.length c0_1]] w fun e w' => ∃ v0_ : Value, e = .returned (v0_) ∧ Kd.R (Kd.int .i64) 3 w' w.heap.size (fun _ => True) v0_ r ∧ Below w.heap.size w w' := by
  unfold hallmarkref07_Order.f at h
  obtain ⟨XS, hXS, hr⟩ := Option.map_eq_some_iff.1 h
  obtain ⟨K, M', hrv⟩ := rv_all l0_1 hXS
  have hre : (ints XS).reverse = ints XS.reverse := by unfold ints; rw [List.map_reverse]
  obtain rfl := hre.symm.trans hr
  have hrv' := Aside0.mk hrv
  clear hrv hr hre h hXS
  obtain ⟨X1, hX1⟩ : ∃ X1, (w.alloc (.cells #[.int .i64 a0_0, .slice A0_1 l0_1.length c0_1] 24)).alloc (.cells #[.slice none 0 0, .slice none 0 0] 47) = X1 := ⟨_, rfl⟩
  have hB1 : Below w.heap.size w X1 := by rw [← hX1]; exact below_alloc (below_alloc (Below.refl _ _) _) _
  have hs1 : X1.heap.size = w.heap.size + 2 := by rw [← hX1]; simp
  have hg : X1.heap[w.heap.size + 1]? = some (.cells #[.slice none 0 0, .slice none 0 0] 47 (0, 0)) := by
    have := heap_alloc_new (w.alloc (.cells #[.int .i64 a0_0, .slice A0_1 l0_1.length c0_1] 24)) (.cells #[.slice none 0 0, .slice none 0 0] 47)
    rw [World.size_alloc, hX1] at this; exact this
  have hbox : X1.heap[w.heap.size]? = some (.cells #[.int .i64 a0_0, .slice A0_1 l0_1.length c0_1] 24 (0, 0)) := by
    have h1 := heap_alloc_new w (.cells #[.int .i64 a0_0, .slice A0_1 l0_1.length c0_1] 24)
    rw [← hX1]
    exact (Below.heap_alloc _ _ _ (by simp)).trans h1
  have hS : WS (w.heap.size) (w.heap.size + 1) (fun k => k = w.heap.size + 1) X1 [] [] (.slice none 0 0) (.slice none 0 0) :=
    ⟨rfl, hg, Kd.R_nil _ _ _ _ _, Kd.R_nil _ _ _ _ _, fun k hk => by omega, fun k hk => by omega, by simp, by simp⟩
  have hS' := Aside0.mk hS
  have hB1' := Aside0.mk hB1
  have hs1' := Aside0.mk hs1
  have hg' := Aside0.mk hg
  have qb0 := (blk_cell hbox 0)
  have qb1 := (blk_cell hbox 1)
  clear hS hB1 hs1 hg hbox
  go_enter Try.func11, Try.ntmps11
  go_wp2_with (first
    | (go_at_call 26; refine Aside0.out ?_))
  refine ⟨?_⟩
  refine (walk_calls w a0_0 A0_1 c0_1 l0_1 hr0_1 hc0_1 w.heap.size (w.heap.size + 1) (Nat.le_refl _) K 0 [] [] M' XS.reverse hrv'.out (fun k => k = w.heap.size + 1) X1 _ _ hS'.out hB1'.out).mono ?_
  rintro e w3 ⟨rfl, T', vM', vL', hT', hK', hS3⟩
  obtain ⟨AL, cL, rfl⟩ := Kd.R_slice hS3.lft
  have r1 := blk_cell hS3.blk 1
  have hfin : Kd.R (Kd.int .i64) 3 w3 w.heap.size (fun _ => True) (.slice AL (ints XS.reverse).length cL) (ints XS.reverse) ∧ Below w.heap.size w w3 := by
    refine ⟨?_, hB1'.out.trans (Keep.below hK' (by have := hs1'.out; omega) (fun k hk => by omega))⟩
    have h1 : Kd.R (Kd.int .i64) 3 w3 w.heap.size (fun _ => True) (.slice AL (ints XS.reverse).length cL) (ints XS.reverse) := Kd.R_mono hS3.lft (fun _ _ => trivial)
    exact h1
  have hfin' := Aside0.mk hfin
  clear hS3 hT' hK' hfin qb0 qb1
  go_simp
  go_wp2
  go_ret
  exact ⟨_, rfl, hfin'.out⟩

end Go.Proofs.Ytemclhndmcjmmaa.PDomTame
