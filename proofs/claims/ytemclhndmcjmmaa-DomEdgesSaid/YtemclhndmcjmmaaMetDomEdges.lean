/- What is met from a block on, past another one; which block is over which, by the program and by the document. -/
import Derived.Test.YtemclhndmcjmmaaGrownDomEdges
set_option linter.unusedVariables false
set_option linter.unusedSectionVars false
namespace Go.Proofs.Ytemclhndmcjmmaa.BaseDomEdges
open Go Go.RowKit Go.Proofs.YtemclhndmcjmmaaW.PrintWords Go.Proofs.YtemclhndmcjmmaaW.PrintLast Go.Proofs.YtemclhndmcjmmaaW.PrintMore Go.Proofs.Ytemclhndmcjmmaa.PDomEdges Go.Proofs.Ytemclhndmcjmmaa.DomTree
/-- a step from block to block -/
def St (fb : List S54) (a b : Nat) : Prop := a < fb.length ∧ b < fb.length ∧ (b : Int) ∈ nb fb a
/-- what holds of the blocks that were met -/
structure MI (fb : List S54) (from_ : Nat) (wo : Int) (out : List Int) : Prop where
  nd : out.Nodup
  lt : ∀ x ∈ out, 0 ≤ x ∧ x < (fb.length : Int) ∧ x ≠ wo
  way : ∀ x ∈ out, Path (St fb) (fun v => (v : Int) ≠ wo) from_ x.toNat
  first : (from_ : Int) ∈ out
theorem nodup_len : ∀ (n : Nat) (l : List Int), l.Nodup → (∀ x ∈ l, 0 ≤ x ∧ x < (n : Int)) → l.length ≤ n
  | 0, l, _, h => by
    cases l with
    | nil => simp
    | cons x l => have := h x List.mem_cons_self; omega
  | n + 1, l, hnd, h => by
    have h1 := nodup_len n (l.filter (fun x => decide (x ≠ (n : Int)))) (hnd.filter _) (fun x hx => by
      have h2 := h x (List.mem_filter.1 hx).1
      have h3 : x ≠ (n : Int) := by simpa using (List.mem_filter.1 hx).2
      omega)
    have h2 : ∀ l : List Int, l.Nodup → l.length ≤ (l.filter (fun x => decide (x ≠ (n : Int)))).length + 1 := by
      intro l
      induction l with
      | nil => simp
      | cons x l ih =>
        intro hl
        have hx := (List.nodup_cons.1 hl).1
        by_cases e : x = (n : Int)
        · have : l.filter (fun x => decide (x ≠ (n : Int))) = l := List.filter_eq_self.2 (fun y hy => by
            simp only [ne_eq, decide_not, Bool.not_eq_true', decide_eq_false_iff_not]
            rintro rfl
            exact hx (e ▸ hy))
          rw [List.filter_cons_of_neg (by simp [e]), this]; simp
        · rw [List.filter_cons_of_pos (by simp [e])]
          have := ih (List.nodup_cons.1 hl).2
          simp only [List.length_cons]; omega
    have := h2 l hnd
    omega
theorem MI.len {fb : List S54} {f : Nat} {wo : Int} {out : List Int} (h : MI fb f wo out) : out.length ≤ fb.length := nodup_len fb.length out h.nd (fun x hx => ⟨(h.lt x hx).1, (h.lt x hx).2.1⟩)
theorem MI.add {fb : List S54} {f : Nat} {wo : Int} {out : List Int} (h : MI fb f wo out) {a : Int} {n : Int} (ha : a ∈ out) (hn : n ∈ nb fb a.toNat) (h0 : 0 ≤ n) (h1 : n < (fb.length : Int)) (hw : n ≠ wo) (hno : n ∉ out) : MI fb f wo (out ++ [n]) := by
  refine ⟨List.nodup_append.2 ⟨h.nd, by simp, fun x hx y hy => by rw [List.mem_singleton.1 hy]; exact fun e => hno (e ▸ hx)⟩, fun x hx => ?_, fun x hx => ?_, List.mem_append_left _ h.first⟩
  · rcases List.mem_append.1 hx with hx | hx
    · exact h.lt x hx
    · rw [List.mem_singleton.1 hx]; exact ⟨h0, h1, hw⟩
  · rcases List.mem_append.1 hx with hx | hx
    · exact h.way x hx
    · rw [List.mem_singleton.1 hx]
      have hal := h.lt a ha
      have e : ((n.toNat : Nat) : Int) = n := Int.toNat_of_nonneg h0
      exact .snoc (h.way a ha) ⟨by omega, by omega, by rw [e]; exact hn⟩ (by show ((n.toNat : Nat) : Int) ≠ wo; rw [e]; exact hw)
/-- all that is met from the first ones of the list is there -/
def Done (fb : List S54) (wo : Int) (out : List Int) (i : Nat) : Prop := ∀ j, j < i → ∀ a, out[j]? = some a → ∀ n ∈ nb fb a.toNat, 0 ≤ n → n < (fb.length : Int) → n ≠ wo → n ∈ out
theorem Done.app {fb : List S54} {wo : Int} {out : List Int} {i : Nat} (h : Done fb wo out i) (hi : i ≤ out.length) (l : List Int) : Done fb wo (out ++ l) i := fun j hj a ha n hn h0 h1 hw => by
  rw [List.getElem?_append_left (by omega)] at ha
  exact List.mem_append_left _ (h j hj a ha n hn h0 h1 hw)
theorem met_l0 (a0 : Int) (fb : List S54) (hN : fb.length ≤ 60) (f : Nat) (wo : Int) : ∀ (d i : Nat) (out : List Int), d + i = fb.length → i ≤ out.length → MI fb f wo out → Done fb wo out i →
    EvP (fun k => hallmarkref08_met.l0 k wo out (i : Int) a0 fb) (fun r => MI fb f wo r ∧ Done fb wo r r.length) := by
  intro d
  induction d with
  | zero =>
    intro i out hd hi hM hD
    have hl := hM.len
    obtain rfl : i = out.length := by omega
    refine evp_step (f := fun _ => some out) (fun k => ?_) (evp_now out ⟨hM, hD⟩)
    show hallmarkref08_met.l0 (k + 1) wo out (out.length : Int) a0 fb = _
    rw [hallmarkref08_met.l0, if_neg (Int.lt_irrefl _)]
  | succ d ih =>
    intro i out hd hi hM hD
    have hl := hM.len
    by_cases hil : i < out.length
    rotate_left
    · obtain rfl : i = out.length := by omega
      refine evp_step (f := fun _ => some out) (fun k => ?_) (evp_now out ⟨hM, hD⟩)
      show hallmarkref08_met.l0 (k + 1) wo out (out.length : Int) a0 fb = _
      rw [hallmarkref08_met.l0, if_neg (Int.lt_irrefl _)]
    obtain ⟨a, ha⟩ : ∃ a, out[i] = a := ⟨_, rfl⟩
    have hrd : rd out (i : Int) = a := by rw [rd_nat out i hil, ha]
    have hmem : a ∈ out := ha ▸ List.getElem_mem hil
    have hal := hM.lt a hmem
    have hat : ((a.toNat : Nat) : Int) = a := Int.toNat_of_nonneg hal.1
    have inner : ∀ (e j : Nat) (out2 : List Int), e + j = (nb fb a.toNat).length → i < out2.length → out2[i]? = some a → MI fb f wo out2 → Done fb wo out2 i → (∀ n ∈ (nb fb a.toNat).take j, 0 ≤ n → n < (fb.length : Int) → n ≠ wo → n ∈ out2) →
        EvP (fun k => hallmarkref08_met.l1 k wo out2 (i : Int) (nb fb a.toNat) (j : Int) a0 fb) (fun r => MI fb f wo r ∧ Done fb wo r r.length) := by
      intro e
      induction e with
      | zero =>
        intro j out2 he hi2 ha2 hM2 hD2 hT
        have hj : j = (nb fb a.toNat).length := by omega
        have hD3 : Done fb wo out2 (i + 1) := fun q hq b hb n hn h0 h1 hw => by
          by_cases e2 : q = i
          · subst e2
            obtain rfl := Option.some.inj (ha2.symm.trans hb)
            exact hT n (by rw [List.take_of_length_le (by omega)]; exact hn) h0 h1 hw
          · exact hD2 q (by omega) b hb n hn h0 h1 hw
        refine evp_step (f := fun k => hallmarkref08_met.l0 k wo out2 ((i + 1 : Nat) : Int) a0 fb) (fun k => ?_) (ih (i + 1) out2 (by omega) (by omega) hM2 hD3)
        show hallmarkref08_met.l1 (k + 1) wo out2 (i : Int) (nb fb a.toNat) (j : Int) a0 fb = _
        rw [hallmarkref08_met.l1, if_neg (by omega), w_nat i (by omega)]
      | succ e ih2 =>
        intro j out2 he hi2 ha2 hM2 hD2 hT
        have hj : j < (nb fb a.toNat).length := by omega
        have hjl := nb_len fb a.toNat
        have hl2 := hM2.len
        obtain ⟨n, hn⟩ : ∃ n, (nb fb a.toNat)[j] = n := ⟨_, rfl⟩
        have hrn : rd (nb fb a.toNat) (j : Int) = n := by rw [rd_nat _ j hj, hn]
        have hnm : n ∈ nb fb a.toNat := hn ▸ List.getElem_mem hj
        have htk : (nb fb a.toNat).take (j + 1) = (nb fb a.toNat).take j ++ [n] := by rw [List.take_succ_eq_append_getElem hj, hn]
        have skip : (0 ≤ n → n < (fb.length : Int) → n ≠ wo → n ∈ out2) → EvP (fun k => hallmarkref08_met.l1 k wo out2 (i : Int) (nb fb a.toNat) ((j + 1 : Nat) : Int) a0 fb) (fun r => MI fb f wo r ∧ Done fb wo r r.length) := fun hs =>
          ih2 (j + 1) out2 (by omega) hi2 ha2 hM2 hD2 (fun x hx h0 h1 hw => by
            rw [htk] at hx
            rcases List.mem_append.1 hx with hx | hx
            · exact hT x hx h0 h1 hw
            · rw [List.mem_singleton.1 hx] at h0 h1 hw ⊢; exact hs h0 h1 hw)
        have g1 : (j : Int) < ((nb fb a.toNat).length : Int) := by omega
        have g2 : (0 : Int) ≤ (j : Int) := by omega
        have hwj := w_nat j (by omega)
        by_cases c1 : n = wo
        · refine evp_step (fun k => ?_) (skip (fun _ _ h => absurd c1 h))
          show hallmarkref08_met.l1 (k + 1) wo out2 (i : Int) (nb fb a.toNat) (j : Int) a0 fb = _
          rw [hallmarkref08_met.l1, if_pos g1, if_pos g2, hrn, if_pos c1, hwj]
        · by_cases c2 : n ≥ 0
          rotate_left
          · refine evp_step (fun k => ?_) (skip (fun h _ _ => absurd h c2))
            show hallmarkref08_met.l1 (k + 1) wo out2 (i : Int) (nb fb a.toNat) (j : Int) a0 fb = _
            rw [hallmarkref08_met.l1, if_pos g1, if_pos g2, hrn, if_neg c1, if_neg c2, hwj]
          by_cases c3 : n < (fb.length : Int)
          rotate_left
          · refine evp_step (fun k => ?_) (skip (fun _ h _ => absurd h c3))
            show hallmarkref08_met.l1 (k + 1) wo out2 (i : Int) (nb fb a.toNat) (j : Int) a0 fb = _
            rw [hallmarkref08_met.l1, if_pos g1, if_pos g2, hrn, if_neg c1, if_pos c2, if_neg c3, hwj]
          have hh := has_ev out2 (by omega) n
          by_cases c4 : n ∈ out2
          · obtain ⟨r, hr, hE⟩ := skip (fun _ _ _ => c4)
            refine ⟨r, hr, ?_⟩
            obtain ⟨K1, e1⟩ := hh
            obtain ⟨K2, e2⟩ := hE
            refine ⟨K1 + K2 + 1, fun k hk => ?_⟩
            obtain ⟨q, rfl⟩ : ∃ q, k = q + 1 := ⟨k - 1, by omega⟩
            dsimp only at e1 e2 ⊢
            rw [hallmarkref08_met.l1, if_pos g1, if_pos g2, hrn, if_neg c1, if_pos c2, if_pos c3, e1 q (by omega), Option.bind_some, decide_eq_true c4, if_pos rfl, hwj]
            exact e2 q (by omega)
          · have hM3 := hM2.add (List.mem_of_getElem? ha2) hnm c2 c3 c1 c4
            obtain ⟨r, hr, hE⟩ := ih2 (j + 1) (out2 ++ [n]) (by omega) (by rw [List.length_append]; omega) (by rw [List.getElem?_append_left hi2]; exact ha2) hM3 (hD2.app (by omega) _) (fun x hx h0 h1 hw => by
              rw [htk] at hx
              rcases List.mem_append.1 hx with hx | hx
              · exact List.mem_append_left _ (hT x hx h0 h1 hw)
              · exact List.mem_append_right _ hx)
            refine ⟨r, hr, ?_⟩
            obtain ⟨K1, e1⟩ := hh
            obtain ⟨K2, e2⟩ := hE
            refine ⟨K1 + K2 + 1, fun k hk => ?_⟩
            obtain ⟨q, rfl⟩ : ∃ q, k = q + 1 := ⟨k - 1, by omega⟩
            dsimp only at e1 e2 ⊢
            rw [hallmarkref08_met.l1, if_pos g1, if_pos g2, hrn, if_neg c1, if_pos c2, if_pos c3, e1 q (by omega), Option.bind_some, decide_eq_false c4, if_neg (by decide), if_pos (by omega), hwj]
            exact e2 q (by omega)
    obtain ⟨r, hr, hE⟩ := inner (nb fb a.toNat).length 0 out rfl hil (by rw [List.getElem?_eq_getElem hil, ha]) hM hD (by simp)
    refine ⟨r, hr, ?_⟩
    obtain ⟨K1, e1⟩ := next_ev (rd_T54 fb a)
    obtain ⟨K2, e2⟩ := hE
    refine ⟨K1 + K2 + 1, fun k hk => ?_⟩
    obtain ⟨q, rfl⟩ : ∃ q, k = q + 1 := ⟨k - 1, by omega⟩
    dsimp only at e1 e2 ⊢
    have hnx : nxS (rd_T54 fb a) = nb fb a.toNat := by unfold nb; rw [hat]
    rw [hallmarkref08_met.l0, if_pos (by omega), if_pos (by omega), hrd, if_pos hal.1, if_pos hal.2.1, e1 q (by omega), Option.bind_some, hnx]
    exact e2 q (by omega)
/-- what is met from a block on, past another one -/
def MetIn (fb : List S54) (f wo : Int) (x : Int) : Prop := 0 ≤ x ∧ 0 ≤ f ∧ f < (fb.length : Int) ∧ f ≠ wo ∧ Path (St fb) (fun v => (v : Int) ≠ wo) f.toNat x.toNat
theorem met_ev (a0 : Int) (fb : List S54) (hN : fb.length ≤ 60) (f wo : Int) : EvP (fun k => hallmarkref08_met.f k a0 fb f wo) (fun r => r.length ≤ 60 ∧ ∀ x, x ∈ r ↔ MetIn fb f wo x) := by
  have nope : ¬ (0 ≤ f ∧ f < (fb.length : Int) ∧ f ≠ wo) → EvP (fun k => hallmarkref08_met.j0 k f wo [] false a0 fb) (fun r => r.length ≤ 60 ∧ ∀ x, x ∈ r ↔ MetIn fb f wo x) := fun hno => by
    refine ⟨[], ⟨by simp, fun x => ⟨fun h => (by cases h), fun h => absurd ⟨h.2.1, h.2.2.1, h.2.2.2.1⟩ hno⟩⟩, ⟨4, fun k hk => ?_⟩⟩
    obtain ⟨q, rfl⟩ : ∃ q, k = q + 3 := ⟨k - 3, by omega⟩
    dsimp only
    rw [hallmarkref08_met.j0, if_neg (by decide), hallmarkref08_met.j1, hallmarkref08_met.l0, if_neg (by simp)]
  by_cases c1 : f = wo
  · obtain ⟨r, hr, hE⟩ := nope (fun h => h.2.2 c1)
    refine ⟨r, hr, Ev.congr (fun k => ?_) hE⟩
    show hallmarkref08_met.f k a0 fb f wo = _
    unfold hallmarkref08_met.f
    rw [Option.bind_some, if_pos c1]
  · by_cases c2 : f ≥ 0
    rotate_left
    · obtain ⟨r, hr, hE⟩ := nope (fun h => c2 h.1)
      refine ⟨r, hr, Ev.congr (fun k => ?_) hE⟩
      show hallmarkref08_met.f k a0 fb f wo = _
      unfold hallmarkref08_met.f
      rw [Option.bind_some, if_neg c1, if_neg c2]
    by_cases c3 : f < (fb.length : Int)
    rotate_left
    · obtain ⟨r, hr, hE⟩ := nope (fun h => c3 h.2.1)
      refine ⟨r, hr, Ev.congr (fun k => ?_) hE⟩
      show hallmarkref08_met.f k a0 fb f wo = _
      unfold hallmarkref08_met.f
      rw [Option.bind_some, if_neg c1, if_pos c2, decide_eq_false c3]
    have hft : ((f.toNat : Nat) : Int) = f := Int.toNat_of_nonneg c2
    obtain ⟨r, ⟨hM, hD⟩, hE⟩ := met_l0 a0 fb hN f.toNat wo fb.length 0 [f] rfl (by simp) ⟨by simp, fun x hx => by rw [List.mem_singleton.1 hx]; exact ⟨c2, c3, c1⟩, fun x hx => by rw [List.mem_singleton.1 hx]; exact .refl, by rw [hft]; simp⟩ (fun j hj => by omega)
    refine ⟨r, ⟨Nat.le_trans hM.len hN, fun x => ⟨fun hx => ⟨(hM.lt x hx).1, c2, c3, c1, hM.way x hx⟩, fun ⟨h0, _, _, _, hp⟩ => ?_⟩⟩, ?_⟩
    · have key : ∀ y, Path (St fb) (fun v => (v : Int) ≠ wo) f.toNat y → (y : Int) ∈ r := by
        intro y hy
        induction hy with
        | refl => exact hM.first
        | snoc hp e s ih =>
          obtain ⟨j, hj⟩ := List.mem_iff_getElem?.1 ih
          have hjl : j < r.length := (List.getElem?_eq_some_iff.1 hj).1
          exact hD j hjl _ hj _ (by rw [Int.toNat_natCast]; exact e.2.2) (by omega) (by have := e.2.1; omega) s
      have := key _ hp
      rwa [Int.toNat_of_nonneg h0] at this
    · obtain ⟨K, e1⟩ := hE
      refine ⟨K + 3, fun k hk => ?_⟩
      obtain ⟨q, rfl⟩ : ∃ q, k = q + 2 := ⟨k - 2, by omega⟩
      dsimp only at e1 ⊢
      unfold hallmarkref08_met.f
      rw [Option.bind_some, if_neg c1, if_pos c2, decide_eq_true c3, hallmarkref08_met.j0, if_pos rfl, if_pos (by simp), hallmarkref08_met.j1, List.nil_append]
      exact e1 q (by omega)
end Go.Proofs.Ytemclhndmcjmmaa.BaseDomEdges
