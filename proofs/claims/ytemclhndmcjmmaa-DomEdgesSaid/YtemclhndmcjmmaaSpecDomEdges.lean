/- Which block is over which: the program's answer and the document's. -/
import Derived.Test.YtemclhndmcjmmaaMetDomEdges
set_option linter.unusedVariables false
set_option linter.unusedSectionVars false
namespace Go.Proofs.Ytemclhndmcjmmaa.BaseDomEdges
open Go Go.RowKit Go.Proofs.YtemclhndmcjmmaaW.PrintWords Go.Proofs.YtemclhndmcjmmaaW.PrintLast Go.Proofs.YtemclhndmcjmmaaW.PrintMore Go.Proofs.Ytemclhndmcjmmaa.PDomEdges Go.Proofs.Ytemclhndmcjmmaa.DomTree
/-- a is over b -/
def DomI (fb : List S54) (XS : List Nat) (a b : Int) : Prop := 0 ≤ a ∧ 0 ≤ b ∧ a.toNat ∈ XS ∧ b.toNat ∈ XS ∧ ¬ Av (EdOf fb XS) a.toNat b.toNat
section
variable {fb : List S54} {XS : List Nat} (h : Ord fb XS)
include h
--REF
theorem path_ed {S : Nat → Prop} {x : Nat} (hp : Path (St fb) S 0 x) : Path (EdOf fb XS) S 0 x ∧ x ∈ XS := by
  induction hp with
  | refl => exact ⟨.refl, (gr_is h).r0⟩
  | snoc _ e s ih => have hE : EdOf fb XS _ _ := ⟨ih.2, e.2.1, e.2.2⟩; exact ⟨.snoc ih.1 hE s, ((gr_is h).ed _ _ hE).2⟩
theorem path_st {S : Nat → Prop} {x : Nat} (hp : Path (EdOf fb XS) S 0 x) : Path (St fb) S 0 x := by
  induction hp with
  | refl => exact .refl
  | snoc _ e s ih => exact .snoc ih ⟨h.lt _ e.1, e.2.1, e.2.2⟩ s
theorem met_all : ∀ (n x : Nat), plOf XS x ≤ n → x ∈ XS → Path (EdOf fb XS) (fun _ => True) 0 x := by
  intro n
  induction n with
  | zero =>
    intro x hp hx
    by_cases e : x = 0
    · subst e; exact .refl
    · obtain ⟨p, _, hl⟩ := (gr_is h).par x hx e; omega
  | succ n ih =>
    intro x hp hx
    by_cases e : x = 0
    · subst e; exact .refl
    · obtain ⟨p, he, hl⟩ := (gr_is h).par x hx e
      exact .snoc (ih p (by omega) he.1) he trivial
theorem met_first (x : Int) : MetIn fb 0 (-1) x ↔ 0 ≤ x ∧ x.toNat ∈ XS := by
  have hpos := h.lt 0 (gr_is h).r0
  constructor
  · rintro ⟨h0, _, _, _, hp⟩
    exact ⟨h0, (path_ed h hp).2⟩
  · rintro ⟨h0, hx⟩
    exact ⟨h0, Int.le_refl 0, by omega, by decide, path_st h ((met_all h _ x.toNat (Nat.le_refl _) hx).mono (fun v _ => by omega))⟩
theorem met_past (a b : Int) (ha : 0 ≤ a) : MetIn fb 0 a b ↔ 0 ≤ b ∧ Av (EdOf fb XS) a.toNat b.toNat := by
  have hpos := h.lt 0 (gr_is h).r0
  constructor
  · rintro ⟨h0, _, _, hne, hp⟩
    exact ⟨h0, by omega, (path_ed h hp).1.mono (fun v hv => by omega)⟩
  · rintro ⟨h0, hne, hp⟩
    exact ⟨h0, Int.le_refl 0, by omega, by omega, path_st h (hp.mono (fun v hv => by omega))⟩
theorem refover_ev (a0 : Int) (hN : fb.length ≤ 60) (a b : Int) : EvP (fun k => hallmarkref08_Over.f k a0 fb a b) (fun r => r = true ↔ DomI fb XS a b) := by
  obtain ⟨L, ⟨hLl, hL⟩, K1, e1⟩ := met_ev a0 fb hN 0 (-1)
  obtain ⟨M, ⟨hMl, hM⟩, K2, e2⟩ := met_ev a0 fb hN 0 a
  obtain ⟨K3, e3⟩ := has_ev L (by omega) a
  obtain ⟨K4, e4⟩ := has_ev L (by omega) b
  obtain ⟨K5, e5⟩ := has_ev M (by omega) b
  have hLa : a ∈ L ↔ 0 ≤ a ∧ a.toNat ∈ XS := by rw [hL, met_first h]
  have hLb : b ∈ L ↔ 0 ≤ b ∧ b.toNat ∈ XS := by rw [hL, met_first h]
  dsimp only at e1 e2 e3 e4 e5
  by_cases ca : a ∈ L
  rotate_left
  · refine ⟨false, ⟨fun h => (by cases h), fun hd => absurd (hLa.2 ⟨hd.1, hd.2.2.1⟩) ca⟩, K1 + K2 + K3 + K4 + K5, fun k hk => ?_⟩
    show hallmarkref08_Over.f k a0 fb a b = _
    unfold hallmarkref08_Over.f
    rw [e1 k (by omega), Option.bind_some, e3 k (by omega), Option.bind_some, decide_eq_false ca, if_neg (by decide)]
  by_cases cb : b ∈ L
  rotate_left
  · refine ⟨false, ⟨fun h => (by cases h), fun hd => absurd (hLb.2 ⟨hd.2.1, hd.2.2.2.1⟩) cb⟩, K1 + K2 + K3 + K4 + K5, fun k hk => ?_⟩
    show hallmarkref08_Over.f k a0 fb a b = _
    unfold hallmarkref08_Over.f
    rw [e1 k (by omega), Option.bind_some, e3 k (by omega), Option.bind_some, decide_eq_true ca, if_pos rfl, e4 k (by omega), Option.bind_some, decide_eq_false cb, if_neg (by decide)]
  obtain ⟨ha0, haX⟩ := hLa.1 ca
  obtain ⟨hb0, hbX⟩ := hLb.1 cb
  refine ⟨!decide (b ∈ M), ?_, K1 + K2 + K3 + K4 + K5, fun k hk => ?_⟩
  · show ((!decide (b ∈ M)) = true ↔ _)
    rw [Bool.not_eq_true', decide_eq_false_iff_not, hM, met_past h a b ha0]
    exact ⟨fun hn => ⟨ha0, hb0, haX, hbX, fun hav => hn ⟨hb0, hav⟩⟩, fun hd hm => hd.2.2.2.2 hm.2⟩
  · show hallmarkref08_Over.f k a0 fb a b = _
    unfold hallmarkref08_Over.f
    rw [e1 k (by omega), Option.bind_some, e3 k (by omega), Option.bind_some, decide_eq_true ca, if_pos rfl, e4 k (by omega), Option.bind_some, decide_eq_true cb, if_pos rfl, e2 k (by omega), Option.bind_some, e5 k (by omega), Option.bind_some]
--/REF
variable {ab : List Int} (T : Tree fb XS ab)
include T
omit h in
theorem fin_at (x : Nat) (hx : x ≠ 0) : rd (ab.set 0 (-1)) (x : Int) = rd ab (x : Int) := by
  rw [rd_getD, rd_getD, List.getD_eq_getElem?_getD, List.getElem?_set_ne (fun e => hx e.symm), ← List.getD_eq_getElem?_getD]
omit h in
theorem fin_len : (ab.set 0 (-1)).length = fb.length := by rw [List.length_set]; exact T.len
/-- the way up ends at the first block, or at the one that is looked for -/
theorem over_l0_ev (a : Nat) : ∀ (n b : Nat), plOf XS b ≤ n → b ∈ XS → EvP (fun k => over_l0 k (ab.set 0 (-1)) (a : Int) (b : Int)) (fun r => r = true ↔ Anc (upOf ab) a b) := by
  intro n
  induction n with
  | zero =>
    intro b hp hb
    have e : b = 0 := (gr_is h).inj b 0 hb (gr_is h).r0 (by rw [(gr_is h).pl0]; omega)
    subst e
    by_cases ea : a = 0
    · subst ea
      refine evp_step (f := fun _ => some true) (fun k => ?_) (evp_now true ⟨fun _ => .refl, fun _ => rfl⟩)
      show over_l0 (k + 1) _ _ _ = _
      rw [over_l0, if_pos rfl]
    · refine evp_step (f := fun _ => some false) (fun k => ?_) (evp_now false ⟨fun h => (by cases h), fun hh => absurd hh.zero ea⟩)
      show over_l0 (k + 1) _ _ _ = _
      rw [over_l0, if_neg (by omega), if_neg (by decide)]
  | succ n ih =>
    intro b hp hb
    by_cases ea : (b : Int) = (a : Int)
    · have e : b = a := by omega
      subst e
      refine evp_step (f := fun _ => some true) (fun k => ?_) (evp_now true ⟨fun _ => .refl, fun _ => rfl⟩)
      show over_l0 (k + 1) _ _ _ = _
      rw [over_l0, if_pos rfl]
    · by_cases eb : b = 0
      · subst eb
        refine evp_step (f := fun _ => some false) (fun k => ?_) (evp_now false ⟨fun h => (by cases h), fun hh => absurd hh.zero (by omega)⟩)
        show over_l0 (k + 1) _ _ _ = _
        rw [over_l0, if_neg ea, if_neg (by decide)]
      · obtain ⟨u, hu⟩ := T.on b hb
        have hlt := T.inv.lt b u eb hu
        have huX := (T.inv.r b u hu).2
        obtain ⟨r, hr, hE⟩ := ih u (by omega) huX
        have hbN := h.lt b hb
        refine evp_step (f := fun k => over_l0 k (ab.set 0 (-1)) (a : Int) (u : Int)) (fun k => ?_) ⟨r, ?_, hE⟩
        · show over_l0 (k + 1) _ _ _ = _
          rw [over_l0, if_neg ea, if_pos (by omega), if_pos (by rw [fin_len T]; omega), fin_at T b eb, (upOf_some hu).2]
        · show (r = true ↔ _)
          rw [hr]
          exact ⟨fun hh => .step hu eb hh, fun hh => hh.up_of_ne (by omega) hu⟩
theorem over_ev (a b : Int) : EvP (fun k => over_f k (ab.set 0 (-1)) (PL fb XS) a b) (fun r => r = true ↔ DomI fb XS a b) := by
  have hl := PL_len h
  by_cases c : a < 0 ∨ b < 0 ∨ a ≥ ((PL fb XS).length : Int) ∨ b ≥ ((PL fb XS).length : Int) ∨ rd (PL fb XS) a < 0 ∨ rd (PL fb XS) b < 0
  · refine ⟨false, ⟨fun h => (by cases h), fun hd => ?_⟩, 0, fun k _ => by show over_f k _ _ _ _ = _; unfold over_f; rw [if_pos c]⟩
    obtain ⟨h1, h2, h3, h4, _⟩ := hd
    have e1 := h.lt _ h3
    have e2 := h.lt _ h4
    have p1 := PL_at h a.toNat e1
    have p2 := PL_at h b.toNat e2
    rw [Int.toNat_of_nonneg h1, if_pos h3] at p1
    rw [Int.toNat_of_nonneg h2, if_pos h4] at p2
    rw [hl, p1, p2] at c
    omega
  · have hc := c
    rw [hl] at c
    have ha : 0 ≤ a := by omega
    have hb : 0 ≤ b := by omega
    obtain ⟨x, rfl⟩ : ∃ x : Nat, a = (x : Int) := ⟨a.toNat, by omega⟩
    obtain ⟨y, rfl⟩ : ∃ y : Nat, b = (y : Int) := ⟨b.toNat, by omega⟩
    have p1 := PL_at h x (by omega)
    have p2 := PL_at h y (by omega)
    have hx : x ∈ XS := by
      rcases Classical.em (x ∈ XS) with e | e
      · exact e
      · rw [if_neg e] at p1; omega
    have hy : y ∈ XS := by
      rcases Classical.em (y ∈ XS) with e | e
      · exact e
      · rw [if_neg e] at p2; omega
    obtain ⟨r, hr, hE⟩ := over_l0_ev h T x _ y (Nat.le_refl _) hy
    refine ⟨r, ?_, Ev.congr (fun k => ?_) hE⟩
    · show (r = true ↔ _)
      rw [hr, T.dom x y hy hx]
      unfold DomI
      simp only [Int.toNat_natCast]
      exact ⟨fun hh => ⟨ha, hb, hx, hy, hh⟩, fun hh => hh.2.2.2.2⟩
    · show over_f k _ _ _ _ = _
      unfold over_f; rw [if_neg hc]
theorem dom_anc_iff {a b : Nat} : DomI fb XS (a : Int) (b : Int) ↔ b ∈ XS ∧ Anc (upOf ab) a b := by
  unfold DomI
  simp only [Int.toNat_natCast]
  constructor
  · rintro ⟨_, _, ha, hb, hn⟩; exact ⟨hb, (T.dom a b hb ha).2 hn⟩
  · rintro ⟨hb, hA⟩
    have ha := hA.r T.inv hb
    exact ⟨by omega, by omega, ha, hb, (T.dom a b hb ha).1 hA⟩
end
end Go.Proofs.Ytemclhndmcjmmaa.BaseDomEdges
