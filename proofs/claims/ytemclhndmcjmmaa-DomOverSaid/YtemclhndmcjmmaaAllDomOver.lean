/- All of it at once: for every function of few blocks there is a relation that the program and the document both come to. -/
import Derived.Test.YtemclhndmcjmmaaSpecDomOver
set_option linter.unusedVariables false
set_option linter.unusedSectionVars false
namespace Go.Proofs.Ytemclhndmcjmmaa.BaseDomOver
open Go Go.RowKit Go.Proofs.YtemclhndmcjmmaaW.PrintWords Go.Proofs.YtemclhndmcjmmaaW.PrintLast Go.Proofs.YtemclhndmcjmmaaW.PrintMore Go.Proofs.Ytemclhndmcjmmaa.PDomOver Go.Proofs.Ytemclhndmcjmmaa.DomTree
theorem Anc.anti {R : Nat → Prop} {pl : Nat → Nat} {Ed : Nat → Nat → Prop} {up : Nat → Option Nat} (g : Gr R pl Ed) (i : Inv R pl Ed up) {a b : Nat} (ha : R a) (hb : R b) (h : Anc up a b) (k : Anc up b a) : a = b :=
  g.inj a b ha hb (Nat.le_antisymm (h.le i) (k.le i))
/-- what both come to -/
structure Both (a0 : Int) (fb : List S54) (ab pl : List Int) (D : Int → Int → Bool) : Prop where
  len : ab.length = fb.length
  gr : Ev (fun k => dom_grown.f k a0 fb) (ab, pl)
  ov : ∀ a b, Ev (fun k => over_f k ab pl a b) (D a b)
  ref : ∀ a b, Ev (fun k => hallmarkref08_Over.f k a0 fb a b) (D a b)
  up : ∀ i : Nat, i < fb.length → (rd ab (i : Int) = -1 ∧ ∀ a : Nat, a < fb.length → a ≠ i → D (a : Int) (i : Int) = false) ∨ (∃ u : Nat, u < fb.length ∧ rd ab (i : Int) = (u : Int) ∧ u ≠ i ∧ D (u : Int) (i : Int) = true ∧ ∀ c : Nat, c ≠ i → D (c : Int) (i : Int) = true → D (c : Int) (u : Int) = true)
  anti : ∀ a b : Nat, D (a : Int) (b : Int) = true → D (b : Int) (a : Int) = true → a = b
theorem both_nil (a0 : Int) : Both a0 [] [] [] (fun _ _ => false) := by
  refine ⟨rfl, ⟨1, fun k hk => ?_⟩, fun a b => ⟨0, fun k _ => ?_⟩, fun a b => ?_, fun i hi => absurd hi (by simp), fun a b h => (by cases h)⟩
  · show dom_grown.f k a0 [] = _
    unfold dom_grown.f
    rw [show Go.Proofs.Ytemclhndmcjmmaa.PDomOver.leftOf ([] : List S54) = some [] from by unfold Go.Proofs.Ytemclhndmcjmmaa.PDomOver.leftOf; rw [if_pos rfl], Option.bind_some, if_pos rfl]; rfl
  · show over_f k [] [] a b = _
    unfold over_f
    rw [if_pos (by show a < 0 ∨ b < 0 ∨ a ≥ 0 ∨ _; omega)]
  · obtain ⟨L, ⟨hLl, hL⟩, K1, e1⟩ := met_ev a0 [] (by simp) 0 (-1)
    have hLn : L = [] := List.eq_nil_iff_forall_not_mem.2 (fun x hx => by
      obtain ⟨_, _, h2, _⟩ := (hL x).1 hx
      exact absurd h2 (by decide))
    subst hLn
    obtain ⟨K3, e3⟩ := has_ev [] (by simp) a
    dsimp only at e1 e3
    refine ⟨K1 + K3, fun k hk => ?_⟩
    show hallmarkref08_Over.f k a0 [] a b = _
    unfold hallmarkref08_Over.f
    rw [e1 k (by omega), Option.bind_some, e3 k (by omega), Option.bind_some, decide_eq_false (by simp), if_neg (by decide)]
open Classical in
theorem both_ev (a0 : Int) (fb : List S54) (hN : fb.length ≤ 60) : ∃ ab pl D, Both a0 fb ab pl D := by
  by_cases hf : fb = []
  · subst hf; exact ⟨_, _, _, both_nil a0⟩
  obtain ⟨XS, h⟩ := ord_is fb (by omega) hf
  obtain ⟨ab, T, hE⟩ := grown_ev a0 h hN
  have dec : ∀ {g : Nat → Option Bool} {P : Prop}, EvP g (fun r => r = true ↔ P) → Ev g (decide P) := by
    rintro g P ⟨r, hr, hE⟩
    have e : r = decide P := by rw [Bool.eq_iff_iff, hr, decide_eq_true_iff]
    exact e ▸ hE
  refine ⟨ab.set 0 (-1), PL fb XS, fun a b => decide (DomI fb XS a b), by rw [List.length_set]; exact T.len, hE, fun a b => dec (over_ev h T a b), fun a b => dec (refover_ev h a0 hN a b), fun i hi => ?_, fun a b h1 h2 => ?_⟩
  · by_cases h0 : i = 0
    · subst h0
      refine .inl ⟨?_, fun a ha hne => decide_eq_false (fun hd => hne ((dom_anc_iff h T).1 hd).2.zero)⟩
      have : 0 < ab.length := by rw [T.len]; exact hi
      rw [rd_getD, List.getD_eq_getElem?_getD, List.getElem?_set_self this]; rfl
    · rw [fin_at T i h0]
      cases hu : upOf ab i with
      | none =>
        have hv := upOf_none (by rw [T.len]; exact hi) hu
        have hge := T.ge (rd ab (i : Int)) (by rw [rd_nat ab i (by rw [T.len]; exact hi)]; exact List.getElem_mem _)
        refine .inl ⟨by omega, fun a ha hne => decide_eq_false (fun hd => ?_)⟩
        obtain ⟨v, hv⟩ := T.on i ((dom_anc_iff h T).1 hd).1
        rw [hu] at hv; cases hv
      | some u =>
        have hX := T.inv.r i u hu
        have hlt := T.inv.lt i u h0 hu
        refine .inr ⟨u, h.lt u hX.2, (upOf_some hu).2, fun e => (by subst e; omega), decide_eq_true ((dom_anc_iff h T).2 ⟨hX.1, .step hu h0 .refl⟩), fun c hc hd => ?_⟩
        exact decide_eq_true ((dom_anc_iff h T).2 ⟨hX.2, Anc.up_of_ne ((dom_anc_iff h T).1 (of_decide_eq_true hd)).2 hc hu⟩)
  · have k1 := (dom_anc_iff h T).1 (of_decide_eq_true h1)
    have k2 := (dom_anc_iff h T).1 (of_decide_eq_true h2)
    exact Anc.anti (gr_is h) T.inv k2.1 k1.1 k1.2 k2.2
end Go.Proofs.Ytemclhndmcjmmaa.BaseDomOver
