/- Which block is over which, and the next one over: the program's tree and the document's question of all ways come to the same. -/
import Derived.Test.YtemclhndmcjmmaaAllDomOver
set_option linter.unusedVariables false
set_option linter.unusedSectionVars false
namespace Go.Proofs.Ytemclhndmcjmmaa.Pure
open Go Go.RowKit Go.Proofs.YtemclhndmcjmmaaW.PrintWords Go.Proofs.YtemclhndmcjmmaaW.PrintLast Go.Proofs.YtemclhndmcjmmaaW.PrintMore Go.Proofs.Ytemclhndmcjmmaa.PDomOver Go.Proofs.Ytemclhndmcjmmaa.BaseDomOver
theorem few_is (a0 : Int) (fb : List S54) : hallmarklaw08_few.f a0 fb = some (a0, fb.take 14) := by
  unfold hallmarklaw08_few.f
  by_cases h : (fb.length : Int) > 14
  · rw [if_pos h, if_pos (by omega)]
  · rw [if_neg h, List.take_of_length_le (by omega)]
section
variable {a0 : Int} {fb : List S54} {ab pl : List Int} {D : Int → Int → Bool} (B : Both a0 fb ab pl D) (hN : fb.length ≤ 60)
include B hN
/-- a is next over i -/
def Nx (fb : List S54) (D : Int → Int → Bool) (i a : Nat) : Prop := a ≠ i ∧ D (a : Int) (i : Int) = true ∧ ∀ c : Nat, c < fb.length → c ≠ i → D (c : Int) (i : Int) = true → D (c : Int) (a : Int) = true
theorem above_l1 (i a : Nat) (r : Int) : ∀ (d c : Nat) (f : Bool), d + c = fb.length → (f = true → (∀ x : Nat, c ≤ x → x < fb.length → x ≠ i → D (x : Int) (i : Int) = true → D (x : Int) (a : Int) = true) → r = (a : Int)) → (¬ (f = true ∧ ∀ x : Nat, c ≤ x → x < fb.length → x ≠ i → D (x : Int) (i : Int) = true → D (x : Int) (a : Int) = true) → Ev (fun k => hallmarkref08_Above.l0 k (i : Int) (wrap64 ((a : Int) + 1)) a0 fb) r) →
    Ev (fun k => hallmarkref08_Above.l1 k (i : Int) (a : Int) f (c : Int) a0 fb) r := by
  intro d
  induction d with
  | zero =>
    intro c f hd h1 h2
    cases f with
    | true =>
      have e := h1 rfl (fun x hx hx2 => by omega)
      refine ev_step (f := fun _ => some (a : Int)) (fun k => ?_) (e ▸ Ev.now _)
      show hallmarkref08_Above.l1 (k + 1) _ _ _ _ _ _ = _
      rw [hallmarkref08_Above.l1, if_neg (by omega), if_pos rfl]
    | false =>
      refine ev_step (f := fun k => hallmarkref08_Above.l0 k (i : Int) (wrap64 ((a : Int) + 1)) a0 fb) (fun k => ?_) (h2 (fun h => (by cases h.1)))
      show hallmarkref08_Above.l1 (k + 1) _ _ _ _ _ _ = _
      rw [hallmarkref08_Above.l1, if_neg (by omega), if_neg (by decide)]
  | succ d ih =>
    intro c f hd h1 h2
    have hc : (c : Int) < (fb.length : Int) := by omega
    have nx := w_nat c (by omega)
    by_cases ci : c = i
    · refine ev_step (f := fun k => hallmarkref08_Above.l1 k (i : Int) (a : Int) f ((c + 1 : Nat) : Int) a0 fb) (fun k => ?_) (ih (c + 1) f (by omega) (fun hf hx => h1 hf (fun x h3 h4 h5 h6 => hx x (by omega) h4 h5 h6)) (fun hn => h2 (fun hh => hn ⟨hh.1, fun x h3 h4 h5 h6 => hh.2 x (by omega) h4 h5 h6⟩)))
      show hallmarkref08_Above.l1 (k + 1) _ _ _ _ _ _ = _
      rw [hallmarkref08_Above.l1, if_pos hc, if_pos (by omega), nx]
    · cases h3 : D (c : Int) (i : Int) with
      | false =>
        refine ev_step (f := fun k => (hallmarkref08_Over.f k a0 fb (c : Int) (i : Int)).bind fun t => if t = true then ((hallmarkref08_Over.f k a0 fb (c : Int) (a : Int)).bind fun t214 => (if t214 = true then (hallmarkref08_Above.l1 k (i : Int) (a : Int) f ((c + 1 : Nat) : Int) a0 fb) else (hallmarkref08_Above.l1 k (i : Int) (a : Int) false ((c + 1 : Nat) : Int) a0 fb))) else (hallmarkref08_Above.l1 k (i : Int) (a : Int) f ((c + 1 : Nat) : Int) a0 fb)) (fun k => ?_) ?_
        · show hallmarkref08_Above.l1 (k + 1) _ _ _ _ _ _ = _
          rw [hallmarkref08_Above.l1, if_pos hc, if_neg (by omega), nx]
        · refine Ev.bind (B.ref _ _) ?_
          rw [h3]
          refine Ev.congr (fun k => by rw [if_neg (by decide)]) (ih (c + 1) f (by omega) (fun hf hx => h1 hf (fun x h4 h5 h6 h7 => ?_)) (fun hn => h2 (fun hh => hn ⟨hh.1, fun x h3 h4 h5 h6 => hh.2 x (by omega) h4 h5 h6⟩)))
          rcases Nat.eq_or_lt_of_le h4 with e | e
          · subst e; rw [h3] at h7; cases h7
          · exact hx x (by omega) h5 h6 h7
      | true =>
        refine ev_step (f := fun k => (hallmarkref08_Over.f k a0 fb (c : Int) (i : Int)).bind fun t => if t = true then ((hallmarkref08_Over.f k a0 fb (c : Int) (a : Int)).bind fun t214 => (if t214 = true then (hallmarkref08_Above.l1 k (i : Int) (a : Int) f ((c + 1 : Nat) : Int) a0 fb) else (hallmarkref08_Above.l1 k (i : Int) (a : Int) false ((c + 1 : Nat) : Int) a0 fb))) else (hallmarkref08_Above.l1 k (i : Int) (a : Int) f ((c + 1 : Nat) : Int) a0 fb)) (fun k => ?_) ?_
        · show hallmarkref08_Above.l1 (k + 1) _ _ _ _ _ _ = _
          rw [hallmarkref08_Above.l1, if_pos hc, if_neg (by omega), nx]
        · refine Ev.bind (B.ref _ _) ?_
          rw [h3]
          refine Ev.congr (f := fun k => (hallmarkref08_Over.f k a0 fb (c : Int) (a : Int)).bind fun t214 => (if t214 = true then (hallmarkref08_Above.l1 k (i : Int) (a : Int) f ((c + 1 : Nat) : Int) a0 fb) else (hallmarkref08_Above.l1 k (i : Int) (a : Int) false ((c + 1 : Nat) : Int) a0 fb))) (fun k => by rw [if_pos rfl]) (Ev.bind (B.ref _ _) ?_)
          cases h4 : D (c : Int) (a : Int) with
          | true =>
            refine Ev.congr (fun k => by rw [if_pos rfl]) (ih (c + 1) f (by omega) (fun hf hx => h1 hf (fun x h4 h5 h6 h7 => ?_)) (fun hn => h2 (fun hh => hn ⟨hh.1, fun x h3 h4 h5 h6 => hh.2 x (by omega) h4 h5 h6⟩)))
            rcases Nat.eq_or_lt_of_le h4 with e | e
            · subst e; assumption
            · exact hx x (by omega) h5 h6 h7
          | false =>
            refine Ev.congr (fun k => by rw [if_neg (by decide)]) (ih (c + 1) false (by omega) (fun hf => (by cases hf)) (fun _ => h2 (fun hh => ?_)))
            have := hh.2 c (Nat.le_refl _) (by omega) ci h3
            rw [h4] at this; cases this
theorem above_l0 (i : Nat) (hi : i < fb.length) (r : Int) : ∀ (d a : Nat), d + a = fb.length → (∀ x : Nat, a ≤ x → x < fb.length → Nx fb D i x → r = (x : Int)) → (r = -1 ∨ ∃ x : Nat, a ≤ x ∧ x < fb.length ∧ Nx fb D i x) → Ev (fun k => hallmarkref08_Above.l0 k (i : Int) (a : Int) a0 fb) r := by
  intro d
  induction d with
  | zero =>
    intro a hd h1 h2
    have e : r = -1 := by
      rcases h2 with e | ⟨x, h3, h4, _⟩
      · exact e
      · omega
    refine ev_step (f := fun _ => some (-1)) (fun k => ?_) (e ▸ Ev.now _)
    show hallmarkref08_Above.l0 (k + 1) _ _ _ _ = _
    rw [hallmarkref08_Above.l0, if_neg (by omega)]
  | succ d ih =>
    intro a hd h1 h2
    have hc : (a : Int) < (fb.length : Int) := by omega
    have nx := w_nat a (by omega)
    have on : ¬ Nx fb D i a → Ev (fun k => hallmarkref08_Above.l0 k (i : Int) (wrap64 ((a : Int) + 1)) a0 fb) r := fun hno => by
      rw [nx]
      refine ih (a + 1) (by omega) (fun x hx => h1 x (by omega)) ?_
      rcases h2 with e | ⟨x, h3, h4, h5⟩
      · exact .inl e
      · rcases Nat.eq_or_lt_of_le h3 with e | e
        · subst e; exact absurd h5 hno
        · exact .inr ⟨x, by omega, h4, h5⟩
    have skip : ¬ Nx fb D i a → Ev (fun k => hallmarkref08_Above.j1 k (i : Int) (a : Int) true a0 fb) r := fun hno =>
      ev_step (f := fun k => hallmarkref08_Above.l0 k (i : Int) (wrap64 ((a : Int) + 1)) a0 fb) (fun k => by
        show hallmarkref08_Above.j1 (k + 1) _ _ _ _ _ = _
        rw [hallmarkref08_Above.j1, if_pos rfl]) (on hno)
    by_cases ai : a = i
    · refine ev_step (f := fun k => hallmarkref08_Above.j1 k (i : Int) (a : Int) true a0 fb) (fun k => ?_) (skip (fun h => h.1 ai))
      show hallmarkref08_Above.l0 (k + 1) _ _ _ _ = _
      rw [hallmarkref08_Above.l0, if_pos hc, if_pos (by omega)]
    · refine ev_step (f := fun k => (hallmarkref08_Over.f k a0 fb (a : Int) (i : Int)).bind fun t => hallmarkref08_Above.j1 k (i : Int) (a : Int) (!t) a0 fb) (fun k => ?_) (Ev.bind (B.ref _ _) ?_)
      · show hallmarkref08_Above.l0 (k + 1) _ _ _ _ = _
        rw [hallmarkref08_Above.l0, if_pos hc, if_neg (by omega)]
      cases h3 : D (a : Int) (i : Int) with
      | false => exact skip (fun h => (by have := h.2.1; rw [h3] at this; cases this))
      | true =>
        refine ev_step (f := fun k => hallmarkref08_Above.l1 k (i : Int) (a : Int) true ((0 : Nat) : Int) a0 fb) (fun k => ?_) (above_l1 B hN i a r fb.length 0 true (by omega) (fun _ hx => h1 a (Nat.le_refl _) (by omega) ⟨ai, h3, fun c h4 h5 h6 => hx c (Nat.zero_le _) h4 h5 h6⟩) (fun hn => on (fun h => hn ⟨rfl, fun x _ h4 h5 h6 => h.2.2 x h4 h5 h6⟩)))
        show hallmarkref08_Above.j1 (k + 1) _ _ _ _ _ = _
        rw [hallmarkref08_Above.j1]; rfl
theorem above_ev (i : Nat) (hi : i < fb.length) : Ev (fun k => hallmarkref08_Above.f k a0 fb (i : Int)) (rd ab (i : Int)) := by
  refine Ev.congr (f := fun k => hallmarkref08_Above.l0 k (i : Int) ((0 : Nat) : Int) a0 fb) (fun k => rfl) (above_l0 B hN i hi _ fb.length 0 (by omega) ?_ ?_)
  · intro x _ hx hn
    rcases B.up i hi with ⟨_, h2⟩ | ⟨u, h1, h2, h3, h4, h5⟩
    · have := h2 x hx hn.1; rw [hn.2.1] at this; cases this
    · rw [h2]
      have := B.anti x u (h5 x hn.1 hn.2.1) (hn.2.2 u h1 h3 h4)
      rw [this]
  · rcases B.up i hi with ⟨h1, h2⟩ | ⟨u, h1, h2, h3, h4, h5⟩
    · exact .inl h1
    · exact .inr ⟨u, Nat.zero_le _, h1, h3, h4, fun c _ => h5 c⟩
theorem law_l0 : ∀ (d i : Nat), d + i = fb.length → Ev (fun k => hallmarklaw08_DomOver.l0 k ab (i : Int) a0 fb) true := by
  intro d
  induction d with
  | zero =>
    intro i hd
    refine ev_step (f := fun k => (hallmarklaw08_lives.f k).bind fun t => some t) (fun k => ?_) (Ev.bind lives_ev (Ev.now true))
    show hallmarklaw08_DomOver.l0 (k + 1) _ _ _ _ = _
    rw [hallmarklaw08_DomOver.l0, if_neg (by rw [B.len]; omega)]
  | succ d ih =>
    intro i hd
    refine ev_step (f := fun k => (hallmarkref08_Above.f k a0 fb (i : Int)).bind fun t => if rd ab (i : Int) = t then hallmarklaw08_DomOver.l0 k ab ((i + 1 : Nat) : Int) a0 fb else some false) (fun k => ?_) (Ev.bind (above_ev B hN i (by omega)) (Ev.congr (fun k => by rw [if_pos rfl]) (ih (i + 1) (by omega))))
    show hallmarklaw08_DomOver.l0 (k + 1) _ _ _ _ = _
    rw [hallmarklaw08_DomOver.l0, if_pos (by rw [B.len]; omega), if_pos (by omega), w_nat i (by omega)]
end
theorem DomOver : hallmarklaw08_DomOver.Pure := by
  intro a0 fb a b _ _ _ _
  have hN : (fb.take 14).length ≤ 60 := by rw [List.length_take]; omega
  obtain ⟨ab, pl, D, B⟩ := both_ev a0 (fb.take 14) hN
  have hA : Ev (fun k => dom_Above.f k a0 (fb.take 14)) ab := by
    obtain ⟨K, hK⟩ := B.gr
    refine ⟨K, fun k hk => ?_⟩
    show dom_Above.f k a0 (fb.take 14) = _
    unfold dom_Above.f
    have := hK k hk
    dsimp only at this
    rw [this]; rfl
  have hO : Ev (fun k => dom_Over.f k a0 (fb.take 14) a b) (D a b) := by
    refine Ev.congr (f := fun k => (dom_grown.f k a0 (fb.take 14)).bind (fun t => over_f k t.1 t.2 a b)) (fun k => rfl) (Ev.bind B.gr (B.ov a b))
  have key : Ev (fun k => hallmarklaw08_DomOver.f k a0 fb a b) true := by
    refine Ev.congr (f := fun k => (dom_Above.f k a0 (fb.take 14)).bind fun t220 => (if (t220.length : Int) = ((fb.take 14).length : Int) then ((dom_Over.f k a0 (fb.take 14) a b).bind fun t223 => ((hallmarkref08_Over.f k a0 (fb.take 14) a b).bind fun t224 => (hallmarklaw08_DomOver.j0 k t220 (t223 != t224) a0 (fb.take 14)))) else (hallmarklaw08_DomOver.j0 k t220 true a0 (fb.take 14)))) (fun k => ?_) (Ev.bind hA ?_)
    · show hallmarklaw08_DomOver.f k a0 fb a b = _
      unfold hallmarklaw08_DomOver.f
      rw [few_is, Option.bind_some]
    · refine Ev.congr (fun k => by rw [if_pos (by rw [B.len])]) (Ev.bind hO (Ev.bind (B.ref a b) ?_))
      refine ev_step (f := fun k => hallmarklaw08_DomOver.l0 k ab ((0 : Nat) : Int) a0 (fb.take 14)) (fun k => ?_) (law_l0 B hN _ 0 rfl)
      show hallmarklaw08_DomOver.j0 (k + 1) _ _ _ _ = _
      rw [hallmarklaw08_DomOver.j0, if_neg (by simp)]; rfl
  exact key.rounds
end Go.Proofs.Ytemclhndmcjmmaa.Pure
