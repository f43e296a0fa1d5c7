/- The blocks over a block are those on the way up from it. -/
import Derived.Test.YtemclhndmcjmmaaFullDomTree
set_option linter.unusedVariables false
set_option linter.unusedSectionVars false
namespace Go.Proofs.Ytemclhndmcjmmaa.BaseDomTree
open Go Go.RowKit Go.Proofs.YtemclhndmcjmmaaW.PrintWords Go.Proofs.YtemclhndmcjmmaaW.PrintLast Go.Proofs.YtemclhndmcjmmaaW.PrintMore Go.Proofs.Ytemclhndmcjmmaa.PDomTree
theorem few_is (a0 : Int) (fb : List S54) : ∃ m, m ≤ 60 ∧ hallmarklaw08_few.f a0 fb = some (a0, fb.take m) := by
  refine ⟨14, by omega, ?_⟩
  unfold hallmarklaw08_few.f
  by_cases h : (fb.length : Int) > 14
  · rw [if_pos h, if_pos (by omega)]
  · rw [if_neg h, List.take_of_length_le (by omega)]
section
variable {a0 : Int} {fb : List S54} {XS : List Nat} {ab pl : List Int} (F : Full a0 fb XS ab pl) (hN : fb.length ≤ 60)
include F hN
theorem law_l2 (L : List Int) (b i : Nat) (hi : i < L.length) (hb : rd L (i : Int) = (b : Int)) (C : List Int) (hC : C.length ≤ 1000) (hm : ∀ c : Nat, decD fb XS (c : Int) (b : Int) = true ↔ (c : Int) ∈ C) (K : Ev (fun k => hallmarklaw08_DomTree.l0 k ab L ((i + 1 : Nat) : Int) a0 fb) true) (hw : wrap64 ((i : Int) + 1) = ((i + 1 : Nat) : Int)) :
    ∀ (d c : Nat), d + c = fb.length → Ev (fun k => hallmarklaw08_DomTree.l2 k ab L (i : Int) C (c : Int) a0 fb) true := by
  intro d
  induction d with
  | zero =>
    intro c hd
    refine ev_step (f := fun k => hallmarklaw08_DomTree.l0 k ab L ((i + 1 : Nat) : Int) a0 fb) (fun k => ?_) K
    show hallmarklaw08_DomTree.l2 (k + 1) _ _ _ _ _ _ _ = _
    rw [hallmarklaw08_DomTree.l2, if_neg (by omega), hw]
  | succ d ih =>
    intro c hd
    refine ev_step (f := fun k => (hallmarkref07_Has.f k C (c : Int)).bind fun t => (hallmarkref08_Over.f k a0 fb (c : Int) (b : Int)).bind fun t2 => if (t != t2) = true then some false else hallmarklaw08_DomTree.l2 k ab L (i : Int) C ((c + 1 : Nat) : Int) a0 fb) (fun k => ?_) (Ev.bind (has_ev C (by omega) _) (Ev.bind (F.ref hN _ _) ?_))
    · show hallmarklaw08_DomTree.l2 (k + 1) _ _ _ _ _ _ _ = _
      rw [hallmarklaw08_DomTree.l2, if_pos (by omega), hb, w_nat c (by omega)]
      refine congrArg _ (funext fun t => ?_)
      rw [if_pos (by omega), if_pos (by omega)]
    · have e : decide ((c : Int) ∈ C) = decD fb XS (c : Int) (b : Int) := by rw [Bool.eq_iff_iff, decide_eq_true_iff, hm c]
      rw [e]
      exact Ev.congr (fun k => by rw [if_neg (by simp)]) (ih (c + 1) (by omega))
theorem law_l1 (L : List Int) (b i : Nat) (hi : i < L.length) (hb : rd L (i : Int) = (b : Int)) (hbX : b ∈ XS) (K : Ev (fun k => hallmarklaw08_DomTree.l0 k ab L ((i + 1 : Nat) : Int) a0 fb) true) (hw : wrap64 ((i : Int) + 1) = ((i + 1 : Nat) : Int)) :
    ∀ (n y : Nat) (C' C : List Int), plOf XS y ≤ n → C = C' ++ [(y : Int)] → y ∈ XS → (∀ c : Nat, decD fb XS (c : Int) (b : Int) = true ↔ (c : Int) ∈ C ∨ decD fb XS (c : Int) (y : Int) = true) → C.length + plOf XS y ≤ plOf XS b + 1 →
    Ev (fun k => hallmarklaw08_DomTree.l1 k ab L (i : Int) C (rd ab (y : Int)) a0 fb) true := by
  intro n
  induction n with
  | zero =>
    intro y C' C hp hC hy hm hl
    have hbl := plOf_lt hbX
    have hXl := nd_len fb.length XS F.nd F.lt
    have hroot := F.root y hy
    have h0 : y = 0 := by
      rcases Nat.eq_zero_or_pos y with e | e
      · exact e
      · have := F.rk 0 y hroot (by omega); omega
    have hyN := F.lt y hy
    have hv : rd ab (y : Int) = -1 := by
      rcases F.up y hyN with ⟨hv, _⟩ | ⟨u, hu, hv, hne, hd, _⟩
      · exact hv
      · have := F.rk u y hd hne; omega
    refine ev_step (f := fun k => hallmarklaw08_DomTree.j2 k ab L (i : Int) C a0 fb) (fun k => ?_) (ev_step (f := fun k => hallmarklaw08_DomTree.l2 k ab L (i : Int) C ((0 : Nat) : Int) a0 fb) (fun k => ?_) (law_l2 F hN L b i hi hb C (by omega) (fun c => ?_) K hw _ 0 rfl))
    · show hallmarklaw08_DomTree.l1 (k + 1) _ _ _ _ _ _ _ = _
      rw [hallmarklaw08_DomTree.l1, hv, if_neg (by decide)]
    · show hallmarklaw08_DomTree.j2 (k + 1) _ _ _ _ _ _ = _
      have hCl : C.length = C'.length + 1 := by rw [hC]; simp
      have hwc : wrap64 ((C.length : Int) - 1) = (C'.length : Int) := by rw [w_id (by omega) (by omega)]; omega
      have hat : rd C (C'.length : Int) = 0 := by rw [rd_getD, hC, List.getD_eq_getElem?_getD, List.getElem?_append_right (Nat.le_refl _), Nat.sub_self]; subst h0; rfl
      rw [hallmarklaw08_DomTree.j2, hwc, if_pos (by omega), if_pos (by omega), hat, if_pos rfl]; rfl
    · rw [hm c]
      refine ⟨fun hh => hh.elim id (fun hd => ?_), Or.inl⟩
      rw [F.anti c y hd (by subst h0; exact F.root c (by simpa using (decD_mem hd).2.2.1))]
      rw [hC]; simp
  | succ n ih =>
    intro y C' C hp hC hy hm hl
    have hbl := plOf_lt hbX
    have hXl := nd_len fb.length XS F.nd F.lt
    have hyN := F.lt y hy
    rcases F.up y hyN with ⟨hv, hno⟩ | ⟨u, hu, hv, hne, hd, hall⟩
    · have h0 : y = 0 := by
        rcases Nat.eq_zero_or_pos y with e | e
        · exact e
        · have h1 := hno 0 (by omega) (by omega)
          have h2 := F.root y hy
          rw [show ((0 : Nat) : Int) = 0 from rfl, h2] at h1; cases h1
      refine ev_step (f := fun k => hallmarklaw08_DomTree.j2 k ab L (i : Int) C a0 fb) (fun k => ?_) (ev_step (f := fun k => hallmarklaw08_DomTree.l2 k ab L (i : Int) C ((0 : Nat) : Int) a0 fb) (fun k => ?_) (law_l2 F hN L b i hi hb C (by omega) (fun c => ?_) K hw _ 0 rfl))
      · show hallmarklaw08_DomTree.l1 (k + 1) _ _ _ _ _ _ _ = _
        rw [hallmarklaw08_DomTree.l1, hv, if_neg (by decide)]
      · show hallmarklaw08_DomTree.j2 (k + 1) _ _ _ _ _ _ = _
        have hCl : C.length = C'.length + 1 := by rw [hC]; simp
        have hwc : wrap64 ((C.length : Int) - 1) = (C'.length : Int) := by rw [w_id (by omega) (by omega)]; omega
        have hat : rd C (C'.length : Int) = 0 := by rw [rd_getD, hC, List.getD_eq_getElem?_getD, List.getElem?_append_right (Nat.le_refl _), Nat.sub_self]; subst h0; rfl
        rw [hallmarklaw08_DomTree.j2, hwc, if_pos (by omega), if_pos (by omega), hat, if_pos rfl]; rfl
      · rw [hm c]
        refine ⟨fun hh => hh.elim id (fun hd => ?_), Or.inl⟩
        rw [F.anti c y hd (by subst h0; exact F.root c (by simpa using (decD_mem hd).2.2.1))]
        rw [hC]; simp
    · have hlt := F.rk u y hd hne
      have huX : u ∈ XS := by simpa using (decD_mem hd).2.2.1
      have hCl : C.length = C'.length + 1 := by rw [hC]; simp
      refine ev_step (f := fun k => hallmarklaw08_DomTree.l1 k ab L (i : Int) (C ++ [(u : Int)]) (rd ab (u : Int)) a0 fb) (fun k => ?_) (ih u C (C ++ [(u : Int)]) (by omega) rfl huX (fun c => ?_) (by rw [List.length_append]; show C.length + 1 + _ ≤ _; omega))
      · show hallmarklaw08_DomTree.l1 (k + 1) _ _ _ _ _ _ _ = _
        rw [hallmarklaw08_DomTree.l1, hv, if_pos (by omega), if_pos (by rw [F.len]; omega), if_pos (by rw [F.len]; omega), if_pos (by omega), if_pos (by omega)]
      · rw [hm c, List.mem_append, List.mem_singleton]
        constructor
        · rintro (h1 | h1)
          · exact .inl (.inl h1)
          · by_cases e : c = y
            · subst e; exact .inl (.inl (by rw [hC]; simp))
            · exact .inr (hall c e h1)
        · rintro ((h1 | h1) | h1)
          · exact .inl h1
          · rw [h1]; exact .inr hd
          · exact .inr (F.trans _ _ _ h1 hd)
theorem law_l0 : ∀ (d i : Nat), d + i = XS.length → Ev (fun k => hallmarklaw08_DomTree.l0 k ab (ints XS).reverse (i : Int) a0 fb) true := by
  have hLl : (ints XS).reverse.length = XS.length := by rw [List.length_reverse]; unfold ints; rw [List.length_map]
  have hXl := nd_len fb.length XS F.nd F.lt
  intro d
  induction d with
  | zero =>
    intro i hd
    refine ev_step (f := fun k => (hallmarklaw08_lives.f k).bind fun t => some t) (fun k => ?_) (Ev.bind lives_ev (Ev.now true))
    show hallmarklaw08_DomTree.l0 (k + 1) _ _ _ _ _ = _
    rw [hallmarklaw08_DomTree.l0, if_neg (by omega)]
  | succ d ih =>
    intro i hd
    obtain ⟨b, hb, hbX⟩ : ∃ b : Nat, rd (ints XS).reverse (i : Int) = (b : Int) ∧ b ∈ XS := by
      rw [rd_nat _ i (by omega)]
      have := List.getElem_mem (l := (ints XS).reverse) (n := i) (by omega)
      rw [List.mem_reverse] at this
      unfold ints at this
      obtain ⟨b, h1, h2⟩ := List.mem_map.1 this
      exact ⟨b, h2.symm, h1⟩
    have hbN := F.lt b hbX
    refine ev_step (f := fun k => hallmarklaw08_DomTree.l1 k ab (ints XS).reverse (i : Int) [(b : Int)] (rd ab (b : Int)) a0 fb) (fun k => ?_)
      (law_l1 F hN _ b i (by omega) hb hbX (ih (i + 1) (by omega)) (w_nat i (by omega)) _ b [] [(b : Int)] (Nat.le_refl _) rfl hbX (fun c => ⟨Or.inr, fun hh => hh.elim (fun e => ?_) id⟩) (by show 1 + _ ≤ _; omega))
    · show hallmarklaw08_DomTree.l0 (k + 1) _ _ _ _ _ = _
      rw [hallmarklaw08_DomTree.l0, if_pos (by omega), if_pos (by omega), hb, if_pos (by omega), if_pos (by rw [F.len]; omega)]
    · rw [List.mem_singleton.1 e]; exact F.refl b hbX
end
end Go.Proofs.Ytemclhndmcjmmaa.BaseDomTree
namespace Go.Proofs.Ytemclhndmcjmmaa.Pure
open Go Go.RowKit Go.Proofs.YtemclhndmcjmmaaW.PrintWords Go.Proofs.YtemclhndmcjmmaaW.PrintLast Go.Proofs.YtemclhndmcjmmaaW.PrintMore Go.Proofs.Ytemclhndmcjmmaa.PDomTree Go.Proofs.Ytemclhndmcjmmaa.BaseDomTree
theorem DomTree : hallmarklaw08_DomTree.Pure := by
  intro a0 fb _ _
  obtain ⟨m, hm, hfew⟩ := few_is a0 fb
  have hN : (fb.take m).length ≤ 60 := by rw [List.length_take]; omega
  obtain ⟨XS, ab, pl, F⟩ := full_ev a0 (fb.take m) hN
  have hA : Ev (fun k => dom_Above.f k a0 (fb.take m)) ab := by
    obtain ⟨K, hK⟩ := F.gr
    refine ⟨K, fun k hk => ?_⟩
    show dom_Above.f k a0 (fb.take m) = _
    unfold dom_Above.f
    have := hK k hk
    dsimp only at this
    rw [this]; rfl
  have key : Ev (fun k => hallmarklaw08_DomTree.f k a0 fb) true := by
    refine Ev.congr (f := fun k => (dom_Above.f k a0 (fb.take m)).bind fun t218 => (if (t218.length : Int) = ((fb.take m).length : Int) then hallmarklaw08_DomTree.l0 k t218 (ints XS).reverse ((0 : Nat) : Int) a0 (fb.take m) else some false)) (fun k => ?_) (Ev.bind hA ?_)
    · show hallmarklaw08_DomTree.f k a0 fb = _
      unfold hallmarklaw08_DomTree.f
      rw [hfew, Option.bind_some]
      show ((dom_Above.f k a0 (fb.take m)).bind fun t218 => ((hallmarkref07_Order.f a0 (fb.take m)).bind fun t221 => _)) = _
      unfold hallmarkref07_Order.f
      rw [F.left]; rfl
    · exact Ev.congr (fun k => by rw [if_pos (by rw [F.len])]) (law_l0 F hN _ 0 rfl)
  exact key.rounds
end Go.Proofs.Ytemclhndmcjmmaa.Pure
