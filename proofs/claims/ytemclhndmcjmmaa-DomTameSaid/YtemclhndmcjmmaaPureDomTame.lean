/- Whether each step back goes to a block that is over its own: in the tree as the document asks it. -/
import Derived.Test.YtemclhndmcjmmaaFullDomTame
set_option linter.unusedVariables false
set_option linter.unusedSectionVars false
namespace Go.Proofs.Ytemclhndmcjmmaa.BaseDomTame
open Go Go.RowKit Go.Proofs.YtemclhndmcjmmaaW.PrintWords Go.Proofs.YtemclhndmcjmmaaW.PrintLast Go.Proofs.YtemclhndmcjmmaaW.PrintMore Go.Proofs.Ytemclhndmcjmmaa.PDomTame
theorem few_is (a0 : Int) (fb : List S54) : ∃ m, m ≤ 60 ∧ hallmarklaw08_few.f a0 fb = some (a0, fb.take m) := by
  refine ⟨14, by omega, ?_⟩
  unfold hallmarklaw08_few.f
  by_cases h : (fb.length : Int) > 14
  · rw [if_pos h, if_pos (by omega)]
  · rw [if_neg h, List.take_of_length_le (by omega)]
section
variable {a0 : Int} {fb : List S54} {XS : List Nat} {ab pl : List Int} (F : Full a0 fb XS ab pl) (hN : fb.length ≤ 60)
include F hN
theorem tl1 (b : Int) : ∀ l : List Int, EvP (fun k => tame_l1 k ab pl b l) (fun r => r = true ↔ ∀ n ∈ l, 0 ≤ n → n < (fb.length : Int) → rd pl n ≤ rd pl b → decD fb XS n b = true)
  | [] => evp_now true ⟨fun _ n h => (by cases h), fun _ => rfl⟩
  | n :: l => by
    obtain ⟨r, hr, hE⟩ := tl1 b l
    have skip : ¬ (0 ≤ n ∧ n < (fb.length : Int) ∧ rd pl n ≤ rd pl b) → (r = true ↔ ∀ m ∈ n :: l, 0 ≤ m → m < (fb.length : Int) → rd pl m ≤ rd pl b → decD fb XS m b = true) := fun hno => by
      rw [hr]
      constructor
      · intro h m hm h0 h1 h2
        rcases List.mem_cons.1 hm with e | e
        · subst e; exact absurd ⟨h0, h1, h2⟩ hno
        · exact h m e h0 h1 h2
      · exact fun h m hm => h m (List.mem_cons_of_mem _ hm)
    by_cases h1 : 0 ≤ n ∧ n < (pl.length : Int)
    rotate_left
    · exact ⟨r, skip (fun h => h1 ⟨h.1, by rw [F.pll]; exact h.2.1⟩), Ev.congr (fun k => by rw [tame_l1, if_neg h1]) hE⟩
    by_cases h2 : rd pl n ≤ rd pl b
    rotate_left
    · exact ⟨r, skip (fun h => h2 h.2.2), Ev.congr (fun k => by rw [tame_l1, if_pos h1, if_neg h2]) hE⟩
    cases h3 : decD fb XS n b with
    | true =>
      refine ⟨r, ?_, Ev.congr (f := fun k => (over_f k ab pl n b).bind (fun o => if o = true then tame_l1 k ab pl b l else some false)) (fun k => by rw [tame_l1, if_pos h1, if_pos h2]) (Ev.bind (F.ov n b) ?_)⟩
      · show (r = true ↔ _)
        rw [hr]
        constructor
        · intro h m hm h0 h1 h2
          rcases List.mem_cons.1 hm with e | e
          · rw [e]; exact h3
          · exact h m e h0 h1 h2
        · exact fun h m hm => h m (List.mem_cons_of_mem _ hm)
      · exact Ev.congr (fun k => by rw [h3, if_pos rfl]) hE
    | false =>
      refine ⟨false, ⟨fun h => (by cases h), fun h => ?_⟩, Ev.congr (f := fun k => (over_f k ab pl n b).bind (fun o => if o = true then tame_l1 k ab pl b l else some false)) (fun k => by rw [tame_l1, if_pos h1, if_pos h2]) (Ev.bind (F.ov n b) ?_)⟩
      · have := h n (by simp) h1.1 (by rw [← F.pll]; exact h1.2) h2
        rw [h3] at this; cases this
      · exact Ev.congr (fun k => by rw [h3, if_neg (by decide)]) (Ev.now false)
/-- the steps of block b that go back go to what is over it -/
def Qb (fb : List S54) (XS : List Nat) (pl : List Int) (b : Int) : Prop := ∀ n ∈ nbOf fb b.toNat, 0 ≤ n → n < (fb.length : Int) → rd pl n ≤ rd pl b → decD fb XS n b = true
theorem tl0 : ∀ l : List Int, EvP (fun k => tame_l0 k fb ab pl l) (fun r => r = true ↔ ∀ b ∈ l, Qb fb XS pl b)
  | [] => evp_now true ⟨fun _ n h => (by cases h), fun _ => rfl⟩
  | b :: l => by
    obtain ⟨r, hr, hE⟩ := tl0 l
    obtain ⟨s, hs, hG⟩ := tl1 F hN b (nbOf fb b.toNat)
    cases s with
    | true =>
      refine ⟨r, ?_, Ev.congr (f := fun k => (tame_l1 k ab pl b (nbOf fb b.toNat)).bind (fun o => if o = true then tame_l0 k fb ab pl l else some false)) (fun k => by rw [tame_l0]) (Ev.bind hG (Ev.congr (fun k => by rw [if_pos rfl]) hE))⟩
      show (r = true ↔ _)
      rw [hr]
      exact ⟨fun h m hm => (List.mem_cons.1 hm).elim (fun e => by rw [e]; exact hs.1 rfl) (h m), fun h m hm => h m (List.mem_cons_of_mem _ hm)⟩
    | false =>
      refine ⟨false, ⟨fun h => (by cases h), fun h => absurd (hs.2 (h b (by simp))) (by decide)⟩, Ev.congr (f := fun k => (tame_l1 k ab pl b (nbOf fb b.toNat)).bind (fun o => if o = true then tame_l0 k fb ab pl l else some false)) (fun k => by rw [tame_l0]) (Ev.bind hG (Ev.congr (fun k => by rw [if_neg (by decide)]) (Ev.now false)))⟩
/-- the same, by places -/
def Rp (fb : List S54) (XS : List Nat) (L : List Int) (i j : Nat) : Prop := rd L (j : Int) ∈ nbOf fb (rd L (i : Int)).toNat → decD fb XS (rd L (j : Int)) (rd L (i : Int)) = true
theorem rl1 (L : List Int) (hL : L.length ≤ 60) (hm : ∀ i : Nat, i < L.length → 0 ≤ rd L (i : Int) ∧ rd L (i : Int) < (fb.length : Int)) (i : Nat) (hi : i < L.length) (P : Prop) (K : EvP (fun k => hallmarkref08_Tame.l0 k L ((i + 1 : Nat) : Int) a0 fb) (fun r => r = true ↔ P)) :
    ∀ (d j : Nat), d + j = i + 1 → EvP (fun k => hallmarkref08_Tame.l1 k L (i : Int) (j : Int) a0 fb) (fun r => r = true ↔ (∀ x : Nat, j ≤ x → x ≤ i → Rp fb XS L i x) ∧ P) := by
  intro d
  induction d with
  | zero =>
    intro j hd
    obtain ⟨r, hr, hE⟩ := K
    refine ⟨r, ?_, ev_step (f := fun k => hallmarkref08_Tame.l0 k L ((i + 1 : Nat) : Int) a0 fb) (fun k => ?_) hE⟩
    · show (r = true ↔ _)
      rw [hr]; exact ⟨fun h => ⟨fun x h1 h2 => by omega, h⟩, fun h => h.2⟩
    · show hallmarkref08_Tame.l1 (k + 1) _ _ _ _ _ = _
      rw [hallmarkref08_Tame.l1, if_neg (by omega), w_nat i (by omega)]
  | succ d ih =>
    intro j hd
    obtain ⟨r, hr, hE⟩ := ih (j + 1) (by omega)
    obtain ⟨hm0, hm1⟩ := hm i hi
    have hnl := nxS_len (rd_T54 fb (rd L (i : Int)))
    have enb : nbOf fb (rd L (i : Int)).toNat = nxS (rd_T54 fb (rd L (i : Int))) := by rw [nbOf_nxS, Int.toNat_of_nonneg hm0]
    have hstep : ∀ {x : Bool}, Ev (fun k => (hallmarkref07_Next.f k ((rd_T54 fb (rd L (i : Int))).f0) ((rd_T54 fb (rd L (i : Int))).f1) ((rd_T54 fb (rd L (i : Int))).f2.f0) ((rd_T54 fb (rd L (i : Int))).f2.f1) ((rd_T54 fb (rd L (i : Int))).f2.f2) ((rd_T54 fb (rd L (i : Int))).f2.f3) ((rd_T54 fb (rd L (i : Int))).f2.f4) ((rd_T54 fb (rd L (i : Int))).f2.f5)).bind fun t223 => ((hallmarkref07_Has.f k t223 (rd L (j : Int))).bind fun t227 => (if t227 = true then ((hallmarkref08_Over.f k a0 fb (rd L (j : Int)) (rd L (i : Int))).bind fun t230 => (if t230 = true then (hallmarkref08_Tame.l1 k L (i : Int) ((j + 1 : Nat) : Int) a0 fb) else (some false))) else (hallmarkref08_Tame.l1 k L (i : Int) ((j + 1 : Nat) : Int) a0 fb)))) x →
        Ev (fun k => hallmarkref08_Tame.l1 k L (i : Int) (j : Int) a0 fb) x := fun hx => by
      refine ev_step (fun k => ?_) hx
      show hallmarkref08_Tame.l1 (k + 1) _ _ _ _ _ = _
      rw [hallmarkref08_Tame.l1, if_pos (by omega), if_pos (by omega), if_pos (by omega), if_pos hm0, if_pos hm1, w_nat j (by omega)]
      refine congrArg _ (funext fun t => ?_)
      rw [if_pos (by omega), if_pos (by omega)]
    by_cases h1 : rd L (j : Int) ∈ nbOf fb (rd L (i : Int)).toNat
    · cases h2 : decD fb XS (rd L (j : Int)) (rd L (i : Int)) with
      | true =>
        refine ⟨r, ?_, hstep (Ev.bind (next_ev _) (Ev.bind (has_ev _ (by omega) _) ?_))⟩
        · show (r = true ↔ _)
          rw [hr]
          refine ⟨fun h => ⟨fun x h3 h4 => ?_, h.2⟩, fun h => ⟨fun x h3 h4 => h.1 x (by omega) h4, h.2⟩⟩
          rcases Nat.eq_or_lt_of_le h3 with e | e
          · subst e; exact fun _ => h2
          · exact h.1 x e h4
        · refine Ev.congr (fun k => by rw [decide_eq_true (by rw [← enb]; exact h1), if_pos rfl]) (Ev.bind (F.ref hN _ _) ?_)
          exact Ev.congr (fun k => by rw [h2, if_pos rfl]) hE
      | false =>
        refine ⟨false, ⟨fun h => (by cases h), fun h => ?_⟩, hstep (Ev.bind (next_ev _) (Ev.bind (has_ev _ (by omega) _) ?_))⟩
        · have := h.1 j (Nat.le_refl _) (by omega) h1
          rw [h2] at this; cases this
        · refine Ev.congr (fun k => by rw [decide_eq_true (by rw [← enb]; exact h1), if_pos rfl]) (Ev.bind (F.ref hN _ _) ?_)
          exact Ev.congr (fun k => by rw [h2, if_neg (by decide)]) (Ev.now false)
    · refine ⟨r, ?_, hstep (Ev.bind (next_ev _) (Ev.bind (has_ev _ (by omega) _) ?_))⟩
      · show (r = true ↔ _)
        rw [hr]
        refine ⟨fun h => ⟨fun x h3 h4 => ?_, h.2⟩, fun h => ⟨fun x h3 h4 => h.1 x (by omega) h4, h.2⟩⟩
        rcases Nat.eq_or_lt_of_le h3 with e | e
        · subst e; exact fun h5 => absurd h5 h1
        · exact h.1 x e h4
      · exact Ev.congr (fun k => by rw [decide_eq_false (by rw [← enb]; exact h1), if_neg (by decide)]) hE
theorem rl0 (L : List Int) (hL : L.length ≤ 60) (hm : ∀ i : Nat, i < L.length → 0 ≤ rd L (i : Int) ∧ rd L (i : Int) < (fb.length : Int)) : ∀ (d i : Nat), d + i = L.length → EvP (fun k => hallmarkref08_Tame.l0 k L (i : Int) a0 fb) (fun r => r = true ↔ ∀ y : Nat, i ≤ y → y < L.length → ∀ x : Nat, x ≤ y → Rp fb XS L y x) := by
  intro d
  induction d with
  | zero =>
    intro i hd
    refine evp_step (f := fun _ => some true) (fun k => ?_) (evp_now true ⟨fun _ y h1 h2 => by omega, fun _ => rfl⟩)
    show hallmarkref08_Tame.l0 (k + 1) _ _ _ _ = _
    rw [hallmarkref08_Tame.l0, if_neg (by omega)]
  | succ d ih =>
    intro i hd
    obtain ⟨r, hr, hE⟩ := rl1 F hN L hL hm i (by omega) _ (ih (i + 1) (by omega)) (i + 1) 0 rfl
    refine ⟨r, ?_, ev_step (f := fun k => hallmarkref08_Tame.l1 k L (i : Int) ((0 : Nat) : Int) a0 fb) (fun k => ?_) hE⟩
    · show (r = true ↔ _)
      rw [hr]
      constructor
      · rintro ⟨h1, h2⟩ y h3 h4 x h5
        rcases Nat.eq_or_lt_of_le h3 with e | e
        · subst e; exact h1 x (Nat.zero_le _) h5
        · exact h2 y e h4 x h5
      · exact fun h => ⟨fun x _ h2 => h i (Nat.le_refl _) (by omega) x h2, fun y h1 h2 => h y (by omega) h2⟩
    · show hallmarkref08_Tame.l0 (k + 1) _ _ _ _ = _
      rw [hallmarkref08_Tame.l0, if_pos (by omega)]; rfl
theorem both_tame : ∃ r, Ev (fun k => dom_Tame.f k a0 fb) r ∧ Ev (fun k => hallmarkref08_Tame.f k a0 fb) r := by
  have hLl : (ints XS).reverse.length = XS.length := by rw [List.length_reverse]; unfold ints; rw [List.length_map]
  have hXl := nd_len fb.length XS F.nd F.lt
  have eL : ints XS.reverse = (ints XS).reverse := by unfold ints; rw [List.map_reverse]
  have at_ : ∀ i : Nat, i < XS.length → ∃ b : Nat, rd (ints XS).reverse (i : Int) = (b : Int) ∧ b ∈ XS ∧ plOf XS b = i := fun i hi => by
    have hi2 : i < XS.reverse.length := by rw [List.length_reverse]; exact hi
    refine ⟨XS.reverse[i], ?_, List.mem_reverse.1 (List.getElem_mem _), ?_⟩
    · rw [← eL, rd_nat _ i (by unfold ints; rw [List.length_map]; exact hi2)]
      unfold ints; rw [List.getElem_map]
    · exact idx_of_get XS.reverse i _ (nd_rev F.nd) (List.getElem?_eq_getElem hi2)
  have of_ : ∀ b : Nat, b ∈ XS → plOf XS b < XS.length ∧ rd (ints XS).reverse (plOf XS b : Int) = (b : Int) := fun b hb => by
    have hlt := plOf_lt hb
    refine ⟨hlt, ?_⟩
    have hi2 : plOf XS b < XS.reverse.length := by rw [List.length_reverse]; exact hlt
    rw [← eL, rd_nat _ _ (by unfold ints; rw [List.length_map]; exact hi2)]
    unfold ints; rw [List.getElem_map]
    unfold plOf
    rw [List.getElem_idxOf (by exact hi2)]
  obtain ⟨r, hr, hE⟩ := tl0 F hN (ints XS.reverse)
  obtain ⟨s, hs, hG⟩ := rl0 F hN (ints XS).reverse (by omega) (fun i hi => by
    obtain ⟨b, h1, h2, _⟩ := at_ i (by omega)
    have := F.lt b h2
    rw [h1]; omega) _ 0 rfl
  have cl : ∀ x ∈ XS, ∀ n ∈ nbOf fb x, 0 ≤ n → n < (fb.length : Int) → n.toNat ∈ XS := by
    rcases F.ord with ⟨h1, h2⟩ | h
    · subst h2; exact fun x hx => absurd hx (by simp)
    · exact h.closed
  have e : r = s := by
    rw [Bool.eq_iff_iff, hr, hs]
    constructor
    · intro h y _ hy x hx hmem
      obtain ⟨b, hb, hbX, hbp⟩ := at_ y (by omega)
      obtain ⟨c, hc, hcX, hcp⟩ := at_ x (by omega)
      rw [hb, hc] at hmem ⊢
      have hcN := F.lt c hcX
      have hbN := F.lt b hbX
      refine h (b : Int) (by rw [eL, List.mem_reverse]; unfold ints; exact List.mem_map.2 ⟨b, hbX, rfl⟩) (c : Int) hmem (by omega) (by omega) ?_
      rw [F.plv c hcN, F.plv b hbN, if_pos hcX, if_pos hbX]; omega
    · intro h b hb n hn h0 h1 h2
      rw [eL, List.mem_reverse] at hb
      unfold ints at hb
      obtain ⟨b', hbX, rfl⟩ := List.mem_map.1 hb
      have hbX' : b' ∈ XS := hbX
      have hbN := F.lt b' hbX'
      have e1 : ((b' : Int)).toNat = b' := by omega
      rw [e1] at hn
      have hnX := cl b' hbX' n hn h0 h1
      obtain ⟨c, rfl⟩ : ∃ c : Nat, n = (c : Int) := ⟨n.toNat, by omega⟩
      rw [Int.toNat_natCast] at hnX
      rw [F.plv c (by omega), F.plv b' hbN, if_pos hnX, if_pos hbX'] at h2
      have o1 := of_ b' hbX'
      have o2 := of_ c hnX
      have := h (plOf XS b') (Nat.zero_le _) (by omega) (plOf XS c) (by omega)
      unfold Rp at this
      rw [o1.2, o2.2, e1] at this
      exact this hn
  refine ⟨r, ?_, ?_⟩
  · refine Ev.congr (f := fun k => (dom_grown.f k a0 fb).bind (fun t => tame_l0 k fb t.1 t.2 (ints XS.reverse))) (fun k => ?_) (Ev.bind F.gr hE)
    show dom_Tame.f k a0 fb = _
    unfold dom_Tame.f
    refine congrArg _ (funext fun t => ?_)
    rw [F.left]; rfl
  · rw [e]
    refine Ev.congr (f := fun k => hallmarkref08_Tame.l0 k (ints XS).reverse ((0 : Nat) : Int) a0 fb) (fun k => ?_) hG
    show hallmarkref08_Tame.f k a0 fb = _
    unfold hallmarkref08_Tame.f hallmarkref07_Order.f
    rw [F.left]; rfl
end
end Go.Proofs.Ytemclhndmcjmmaa.BaseDomTame
namespace Go.Proofs.Ytemclhndmcjmmaa.Pure
open Go Go.RowKit Go.Proofs.YtemclhndmcjmmaaW.PrintWords Go.Proofs.YtemclhndmcjmmaaW.PrintLast Go.Proofs.YtemclhndmcjmmaaW.PrintMore Go.Proofs.Ytemclhndmcjmmaa.PDomTame Go.Proofs.Ytemclhndmcjmmaa.BaseDomTame
theorem DomTame : hallmarklaw08_DomTame.Pure := by
  intro a0 fb _ _
  obtain ⟨m, hm, hfew⟩ := few_is a0 fb
  have hN : (fb.take m).length ≤ 60 := by rw [List.length_take]; omega
  obtain ⟨XS, ab, pl, F⟩ := full_ev a0 (fb.take m) hN
  obtain ⟨r, h1, h2⟩ := both_tame F hN
  have key : Ev (fun k => hallmarklaw08_DomTame.f k a0 fb) true := by
    refine Ev.congr (f := fun k => (dom_Tame.f k a0 (fb.take m)).bind fun t236 => ((hallmarkref08_Tame.f k a0 (fb.take m)).bind fun t237 => (if (t236 == t237) = true then ((hallmarklaw08_lives.f k).bind fun t238 => (some t238)) else (some false)))) (fun k => ?_) (Ev.bind h1 (Ev.bind h2 ?_))
    · show hallmarklaw08_DomTame.f k a0 fb = _
      unfold hallmarklaw08_DomTame.f
      rw [hfew, Option.bind_some]
    · exact Ev.congr (fun k => by rw [if_pos (by simp)]) (Ev.bind lives_ev (Ev.now true))
  exact key.rounds
end Go.Proofs.Ytemclhndmcjmmaa.Pure
