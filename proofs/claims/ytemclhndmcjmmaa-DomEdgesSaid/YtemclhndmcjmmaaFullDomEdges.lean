/- All that is known of one function of few blocks: its order, its tree, and the relation 'over'. -/
import Derived.Test.YtemclhndmcjmmaaSpecDomEdges
set_option linter.unusedVariables false
set_option linter.unusedSectionVars false
namespace Go.Proofs.Ytemclhndmcjmmaa.BaseDomEdges
open Go Go.RowKit Go.Proofs.YtemclhndmcjmmaaW.PrintWords Go.Proofs.YtemclhndmcjmmaaW.PrintLast Go.Proofs.YtemclhndmcjmmaaW.PrintMore Go.Proofs.Ytemclhndmcjmmaa.PDomEdges Go.Proofs.Ytemclhndmcjmmaa.DomTree
theorem Anc.anti {R : Nat → Prop} {pl : Nat → Nat} {Ed : Nat → Nat → Prop} {up : Nat → Option Nat} (g : Gr R pl Ed) (i : Inv R pl Ed up) {a b : Nat} (ha : R a) (hb : R b) (h : Anc up a b) (k : Anc up b a) : a = b :=
  g.inj a b ha hb (Nat.le_antisymm (h.le i) (k.le i))
theorem nd_len (N : Nat) : ∀ (l : List Nat), l.Nodup → (∀ x ∈ l, x < N) → l.length ≤ N := by
  induction N with
  | zero =>
    intro l _ h
    cases l with
    | nil => exact Nat.le_refl _
    | cons a t => exact absurd (h a (by simp)) (by omega)
  | succ N ih =>
    intro l hn h
    have e := ih (l.erase N) (hn.erase _) (fun x hx => by
      have h1 := h x (List.mem_of_mem_erase hx)
      have h2 : x ≠ N := fun e => (by subst e; exact absurd hx (List.Nodup.not_mem_erase hn))
      omega)
    have := List.length_erase_le (a := N) (l := l)
    by_cases hm : N ∈ l
    · rw [List.length_erase_of_mem hm] at e; omega
    · rw [List.erase_of_not_mem hm] at e; omega
noncomputable def decD (fb : List S54) (XS : List Nat) (a b : Int) : Bool := @decide (DomI fb XS a b) (Classical.propDecidable _)
theorem decD_iff {fb : List S54} {XS : List Nat} {a b : Int} : decD fb XS a b = true ↔ DomI fb XS a b := by
  unfold decD; exact @decide_eq_true_iff _ (Classical.propDecidable _)
theorem ev_dec {fb : List S54} {XS : List Nat} {a b : Int} {g : Nat → Option Bool} (h : EvP g (fun r => r = true ↔ DomI fb XS a b)) : Ev g (decD fb XS a b) := by
  obtain ⟨r, hr, hE⟩ := h
  have e : r = decD fb XS a b := by rw [Bool.eq_iff_iff, hr, decD_iff]
  exact e ▸ hE
/-- what both come to -/
structure Full (a0 : Int) (fb : List S54) (XS : List Nat) (ab pl : List Int) : Prop where
  ord : (fb = [] ∧ XS = []) ∨ Ord fb XS
  left : Go.Proofs.Ytemclhndmcjmmaa.PDomEdges.leftOf fb = some XS
  lt : ∀ x ∈ XS, x < fb.length
  nd : XS.Nodup
  len : ab.length = fb.length
  gr : Ev (fun k => dom_grown.f k a0 fb) (ab, pl)
  ov : ∀ a b, Ev (fun k => over_f k ab pl a b) (decD fb XS a b)
  up : ∀ i : Nat, i < fb.length → (rd ab (i : Int) = -1 ∧ ∀ a : Nat, a < fb.length → a ≠ i → decD fb XS (a : Int) (i : Int) = false) ∨ (∃ u : Nat, u < fb.length ∧ rd ab (i : Int) = (u : Int) ∧ u ≠ i ∧ decD fb XS (u : Int) (i : Int) = true ∧ ∀ c : Nat, c ≠ i → decD fb XS (c : Int) (i : Int) = true → decD fb XS (c : Int) (u : Int) = true)
  anti : ∀ a b : Nat, decD fb XS (a : Int) (b : Int) = true → decD fb XS (b : Int) (a : Int) = true → a = b
  trans : ∀ a b c : Nat, decD fb XS (a : Int) (b : Int) = true → decD fb XS (b : Int) (c : Int) = true → decD fb XS (a : Int) (c : Int) = true
  refl : ∀ a : Nat, a ∈ XS → decD fb XS (a : Int) (a : Int) = true
  root : ∀ a : Nat, a ∈ XS → decD fb XS 0 (a : Int) = true
  pll : pl.length = fb.length
  plv : ∀ x : Nat, x < fb.length → rd pl (x : Int) = if x ∈ XS then ((plOf XS x : Nat) : Int) else -1
  rk : ∀ a b : Nat, decD fb XS (a : Int) (b : Int) = true → a ≠ b → plOf XS a < plOf XS b
  sole : ∀ i p : Nat, i ∈ XS → p ∈ XS → i ≠ 0 → (∀ q, q ∈ XS → (i : Int) ∈ nbOf fb q → q = p) → decD fb XS (p : Int) (i : Int) = true
  edge : ∀ c i p : Nat, p ∈ XS → i < fb.length → (i : Int) ∈ nbOf fb p → c ≠ i → decD fb XS (c : Int) (i : Int) = true → decD fb XS (c : Int) (p : Int) = true
  par : ∀ i, i ∈ XS → i ≠ 0 → ∃ p, p ∈ XS ∧ (i : Int) ∈ nbOf fb p
theorem decD_mem {fb : List S54} {XS : List Nat} {a b : Int} (h : decD fb XS a b = true) : 0 ≤ a ∧ 0 ≤ b ∧ a.toNat ∈ XS ∧ b.toNat ∈ XS :=
  let d := decD_iff.1 h; ⟨d.1, d.2.1, d.2.2.1, d.2.2.2.1⟩
theorem decD_none {fb : List S54} {a b : Int} : decD fb [] a b = false := by
  cases h : decD fb [] a b with
  | false => rfl
  | true => exact absurd (decD_mem h).2.2.1 (by simp)
theorem left_nil : Go.Proofs.Ytemclhndmcjmmaa.PDomEdges.leftOf ([] : List S54) = some [] := by unfold Go.Proofs.Ytemclhndmcjmmaa.PDomEdges.leftOf; rw [if_pos rfl]
theorem full_nil (a0 : Int) : Full a0 [] [] [] [] := by
  have no : ∀ {a b : Int}, decD ([] : List S54) [] a b = true → False := fun h => by rw [decD_none] at h; cases h
  refine ⟨.inl ⟨rfl, rfl⟩, left_nil, fun x hx => absurd hx (by simp), List.nodup_nil, rfl, ⟨1, fun k hk => ?_⟩, fun a b => ⟨0, fun k _ => ?_⟩, fun i hi => absurd hi (by simp), fun a b h => absurd (no h) id, fun a b c h => absurd (no h) id, fun a ha => absurd ha (by simp), fun a ha => absurd ha (by simp), rfl, fun x hx => absurd hx (by simp), fun a b h => absurd (no h) id, fun i p hi => absurd hi (by simp), fun c i p hp => absurd hp (by simp), fun i hi => absurd hi (by simp)⟩
  · show dom_grown.f k a0 [] = _
    unfold dom_grown.f
    rw [left_nil, Option.bind_some, if_pos rfl]; rfl
  · show over_f k [] [] a b = _
    unfold over_f
    rw [decD_none, if_pos (by show a < 0 ∨ b < 0 ∨ a ≥ 0 ∨ _; omega)]
theorem full_ev (a0 : Int) (fb : List S54) (hN : fb.length ≤ 60) : ∃ XS ab pl, Full a0 fb XS ab pl := by
  by_cases hf : fb = []
  · subst hf; exact ⟨_, _, _, full_nil a0⟩
  obtain ⟨XS, h⟩ := ord_is fb (by omega) hf
  obtain ⟨ab, T, hE⟩ := grown_ev a0 h hN
  have toAnc : ∀ {a b : Nat}, decD fb XS (a : Int) (b : Int) = true → b ∈ XS ∧ Anc (upOf ab) a b := fun hd => (dom_anc_iff h T).1 (decD_iff.1 hd)
  have ofAnc : ∀ {a b : Nat}, b ∈ XS → Anc (upOf ab) a b → decD fb XS (a : Int) (b : Int) = true := fun hb ha => decD_iff.2 ((dom_anc_iff h T).2 ⟨hb, ha⟩)
  have toAv : ∀ {a b : Nat}, a ∈ XS → b ∈ XS → ¬ Av (EdOf fb XS) a b → decD fb XS (a : Int) (b : Int) = true := fun ha hb hn => decD_iff.2 ⟨by omega, by omega, by simpa using ha, by simpa using hb, by simpa using hn⟩
  have ofAv : ∀ {a b : Nat}, decD fb XS (a : Int) (b : Int) = true → a ∈ XS ∧ b ∈ XS ∧ ¬ Av (EdOf fb XS) a b := fun hd => by
    have := decD_iff.1 hd
    unfold DomI at this
    simp only [Int.toNat_natCast] at this
    exact ⟨this.2.2.1, this.2.2.2.1, this.2.2.2.2⟩
  have isF : ∀ {b : Bool}, (b = true → False) → b = false := fun {b} hb => by cases b; rfl; exact absurd rfl hb
  refine ⟨XS, ab.set 0 (-1), PL fb XS, .inr h, h.left, h.lt, h.nd, by rw [List.length_set]; exact T.len, hE, fun a b => ev_dec (over_ev h T a b), fun i hi => ?_, fun a b h1 h2 => ?_, fun a b c h1 h2 => ?_, fun a ha => ofAnc ha .refl, fun a ha => ?_, PL_len h, fun x hx => PL_at h x hx, fun a b hd hne => ?_, fun i p hi hp hi0 hq => ?_, fun c i p hp hi hm hne hd => ?_, fun i hi hi0 => ?_⟩
  · by_cases h0 : i = 0
    · subst h0
      refine .inl ⟨?_, fun a ha hne => isF (fun hd => hne (toAnc hd).2.zero)⟩
      have : 0 < ab.length := by rw [T.len]; exact hi
      rw [rd_getD, List.getD_eq_getElem?_getD, List.getElem?_set_self this]; rfl
    · rw [fin_at T i h0]
      cases hu : upOf ab i with
      | none =>
        have hv := upOf_none (by rw [T.len]; exact hi) hu
        have hge := T.ge (rd ab (i : Int)) (by rw [rd_nat ab i (by rw [T.len]; exact hi)]; exact List.getElem_mem _)
        refine .inl ⟨by omega, fun a ha hne => isF (fun hd => ?_)⟩
        obtain ⟨v, hv⟩ := T.on i (toAnc hd).1
        rw [hu] at hv; cases hv
      | some u =>
        have hX := T.inv.r i u hu
        have hlt := T.inv.lt i u h0 hu
        refine .inr ⟨u, h.lt u hX.2, (upOf_some hu).2, fun e => (by subst e; omega), ofAnc hX.1 (.step hu h0 .refl), fun c hc hd => ?_⟩
        exact ofAnc hX.2 (Anc.up_of_ne (toAnc hd).2 hc hu)
  · exact Anc.anti (gr_is h) T.inv (toAnc h2).1 (toAnc h1).1 (toAnc h1).2 (toAnc h2).2
  · exact ofAnc (toAnc h2).1 ((toAnc h1).2.trans (toAnc h2).2)
  · exact ofAnc ha (anc_zero T.inv _ a (Nat.le_refl _) (T.on a ha))
  · rcases Nat.lt_or_ge (plOf XS a) (plOf XS b) with e | e
    · exact e
    · exact absurd ((gr_is h).inj a b (ofAv hd).1 (ofAv hd).2.1 (Nat.le_antisymm ((toAnc hd).2.le T.inv) e)) hne
  · refine toAv hp hi (fun hav => ?_)
    obtain ⟨hp0, hpa⟩ := hav
    cases hpa with
    | refl => exact hi0 rfl
    | snoc hh e s =>
      have := hq _ e.1 e.2.2
      subst this
      cases hh with
      | refl => exact hp0 rfl
      | snoc _ _ s2 => exact s2 rfl
  · obtain ⟨hc, hiX, hn⟩ := ofAv hd
    exact toAv hc hp (fun hav => hn ⟨hav.1, .snoc hav.2 ⟨hp, hi, hm⟩ (fun e => hne e.symm)⟩)
  · obtain ⟨A, B, y, e, _, hB, hy⟩ := h.par i hi hi0
    exact ⟨y, by rw [e]; exact List.mem_append_right _ hB, hy⟩
--REF
theorem Full.ref {a0 : Int} {fb : List S54} {XS : List Nat} {ab pl : List Int} (F : Full a0 fb XS ab pl) (hN : fb.length ≤ 60) (a b : Int) : Ev (fun k => hallmarkref08_Over.f k a0 fb a b) (decD fb XS a b) := by
  rcases F.ord with ⟨hf, hX⟩ | h
  · subst hf; subst hX
    obtain ⟨L, ⟨hLl, hL⟩, K1, e1⟩ := met_ev a0 [] (by simp) 0 (-1)
    have hLn : L = [] := List.eq_nil_iff_forall_not_mem.2 (fun x hx => by
      obtain ⟨_, _, h2, _⟩ := (hL x).1 hx
      exact absurd h2 (by decide))
    subst hLn
    obtain ⟨K3, e3⟩ := has_ev [] (by simp) a
    dsimp only at e1 e3
    refine ⟨K1 + K3, fun k hk => ?_⟩
    show hallmarkref08_Over.f k a0 [] a b = _
    unfold hallmarkref08_Over.f
    rw [e1 k (by omega), Option.bind_some, e3 k (by omega), Option.bind_some, decide_eq_false (by simp), if_neg (by decide), decD_none]
  · exact ev_dec (refover_ev h a0 hN a b)
--/REF
end Go.Proofs.Ytemclhndmcjmmaa.BaseDomEdges
