/- The first block is over each one that is met; a block with one way in stands under that one. -/
import Derived.Test.YtemclhndmcjmmaaFullDomFirst
set_option linter.unusedVariables false
set_option linter.unusedSectionVars false
namespace Go.Proofs.Ytemclhndmcjmmaa.BaseDomFirst
open Go Go.RowKit Go.Proofs.YtemclhndmcjmmaaW.PrintWords Go.Proofs.YtemclhndmcjmmaaW.PrintLast Go.Proofs.YtemclhndmcjmmaaW.PrintMore Go.Proofs.Ytemclhndmcjmmaa.PDomFirst
theorem few_is (a0 : Int) (fb : List S54) : ∃ m, m ≤ 60 ∧ hallmarklaw08_few.f a0 fb = some (a0, fb.take m) := by
  refine ⟨14, by omega, ?_⟩
  unfold hallmarklaw08_few.f
  by_cases h : (fb.length : Int) > 14
  · rw [if_pos h, if_pos (by omega)]
  · rw [if_neg h, List.take_of_length_le (by omega)]
/-- the document's blocks ahead of i -/
def ahR (fb : List S54) (i : Nat) : Nat → List Int
  | 0 => []
  | p + 1 => ahR fb i p ++ (if (i : Int) ∈ nbOf fb p then [(p : Int)] else [])
theorem ahR_len (fb : List S54) (i : Nat) : ∀ p, (ahR fb i p).length ≤ p
  | 0 => Nat.le_refl _
  | p + 1 => by
    have := ahR_len fb i p
    unfold ahR
    rw [List.length_append]
    by_cases e : (i : Int) ∈ nbOf fb p
    · rw [if_pos e]; show _ + 1 ≤ _; omega
    · rw [if_neg e]; show _ + 0 ≤ _; omega
theorem ahR_mem (fb : List S54) (i : Nat) : ∀ (p q : Nat), q < p → (i : Int) ∈ nbOf fb q → (q : Int) ∈ ahR fb i p
  | 0, q, h, _ => absurd h (by omega)
  | p + 1, q, h, hm => by
    unfold ahR
    rcases Nat.eq_or_lt_of_le (Nat.le_of_lt_succ h) with e | e
    · subst e; rw [if_pos hm]; simp
    · exact List.mem_append_left _ (ahR_mem fb i p q e hm)
theorem ahR_l0 (a0 : Int) (fb : List S54) (hN : fb.length ≤ 60) (i : Nat) : ∀ (d p : Nat), d + p = fb.length → Ev (fun k => hallmarkref07_Ahead.l0 k (i : Int) (ahR fb i p) (p : Int) a0 fb) (ahR fb i fb.length) := by
  intro d
  induction d with
  | zero =>
    intro p hd
    have e : p = fb.length := by omega
    refine ev_step (f := fun _ => some (ahR fb i fb.length)) (fun k => ?_) (Ev.now _)
    show hallmarkref07_Ahead.l0 (k + 1) _ _ _ _ _ = _
    rw [hallmarkref07_Ahead.l0, if_neg (by omega), e]
  | succ d ih =>
    intro p hd
    have hl := ahR_len fb i p
    have hL := nxS_len (rd_T54 fb (p : Int))
    refine ev_step (f := fun k => (hallmarkref07_Next.f k ((rd_T54 fb (p : Int)).f0) ((rd_T54 fb (p : Int)).f1) ((rd_T54 fb (p : Int)).f2.f0) ((rd_T54 fb (p : Int)).f2.f1) ((rd_T54 fb (p : Int)).f2.f2) ((rd_T54 fb (p : Int)).f2.f3) ((rd_T54 fb (p : Int)).f2.f4) ((rd_T54 fb (p : Int)).f2.f5)).bind fun t191 => ((hallmarkref07_Has.f k t191 (i : Int)).bind fun t194 => (if t194 = true then (hallmarkref07_Ahead.l0 k (i : Int) (ahR fb i p ++ [(p : Int)]) ((p + 1 : Nat) : Int) a0 fb) else (hallmarkref07_Ahead.l0 k (i : Int) (ahR fb i p) ((p + 1 : Nat) : Int) a0 fb)))) (fun k => ?_)
      (Ev.bind (next_ev _) (Ev.bind (has_ev _ (by omega) _) ?_))
    · show hallmarkref07_Ahead.l0 (k + 1) _ _ _ _ _ = _
      rw [hallmarkref07_Ahead.l0, if_pos (by omega), if_pos (by omega), w_nat p (by omega)]
      refine congrArg _ (funext fun t => congrArg _ (funext fun t2 => ?_))
      rw [if_pos (show (ahR fb i p).length < 17592186044416 by omega)]
    · have hi := ih (p + 1) (by omega)
      by_cases e : (i : Int) ∈ nbOf fb p
      · rw [show ahR fb i (p + 1) = ahR fb i p ++ [(p : Int)] from by rw [ahR, if_pos e]] at hi
        have e2 : decide ((i : Int) ∈ nxS (rd_T54 fb (p : Int))) = true := decide_eq_true e
        exact Ev.congr (fun k => by rw [e2, if_pos rfl]) hi
      · rw [show ahR fb i (p + 1) = ahR fb i p from by rw [ahR, if_neg e, List.append_nil]] at hi
        have e2 : decide ((i : Int) ∈ nxS (rd_T54 fb (p : Int))) = false := decide_eq_false e
        exact Ev.congr (fun k => by rw [e2, if_neg (by decide)]) hi
section
variable {a0 : Int} {fb : List S54} {XS : List Nat} {ab pl : List Int} (F : Full a0 fb XS ab pl) (hN : fb.length ≤ 60)
include F hN
theorem one_up (i : Nat) (hi : i ∈ XS) (h0 : i ≠ 0) (v : Int) (ha : ahR fb i fb.length = [v]) (hv : v ≠ (i : Int)) : rd ab (i : Int) = v := by
  have hiN := F.lt i hi
  obtain ⟨p, hp, hm⟩ := F.par i hi h0
  have hpN := F.lt p hp
  have e := ahR_mem fb i fb.length p hpN hm
  rw [ha, List.mem_singleton] at e
  have hpi : p ≠ i := fun e2 => hv (by rw [← e, e2])
  have hD := F.sole i p hi hp h0 (fun q hq hqm => by
    have e3 := ahR_mem fb i fb.length q (F.lt q hq) hqm
    rw [ha, List.mem_singleton, ← e] at e3; omega)
  rcases F.up i hiN with ⟨_, hno⟩ | ⟨u, hu, hr, hne, hd, hall⟩
  · have := hno p hpN hpi; rw [hD] at this; cases this
  · have h1 := hall p hpi hD
    have h2 := F.edge u i p hp hiN hm hne hd
    rw [hr, F.anti u p h2 h1, e]
theorem law_l0 : ∀ (d i : Nat), d + i = fb.length → Ev (fun k => hallmarklaw08_DomFirst.l0 k (ints XS).reverse ab (i : Int) a0 fb) true := by
  have hLl : (ints XS).reverse.length = XS.length := by rw [List.length_reverse]; unfold ints; rw [List.length_map]
  have hXl := nd_len fb.length XS F.nd F.lt
  intro d
  induction d with
  | zero =>
    intro i hd
    refine ev_step (f := fun k => (hallmarklaw08_lives.f k).bind fun t => some t) (fun k => ?_) (Ev.bind lives_ev (Ev.now true))
    show hallmarklaw08_DomFirst.l0 (k + 1) _ _ _ _ _ = _
    rw [hallmarklaw08_DomFirst.l0, if_neg (by omega)]
  | succ d ih =>
    intro i hd
    have hiN : i < fb.length := by omega
    have K := ih (i + 1) (by omega)
    have hO : Ev (fun k => dom_Over.f k a0 fb 0 (i : Int)) (decD fb XS 0 (i : Int)) :=
      Ev.congr (f := fun k => (dom_grown.f k a0 fb).bind (fun t => over_f k t.1 t.2 0 (i : Int))) (fun k => rfl) (Ev.bind F.gr (F.ov 0 (i : Int)))
    have hH := has_ev (ints XS).reverse (by omega) (i : Int)
    have hA : Ev (fun k => hallmarkref07_Ahead.f k a0 fb (i : Int)) (ahR fb i fb.length) := Ev.congr (f := fun k => hallmarkref07_Ahead.l0 k (i : Int) (ahR fb i 0) ((0 : Nat) : Int) a0 fb) (fun k => rfl) (ahR_l0 a0 fb hN i _ 0 rfl)
    have hmem : (i : Int) ∈ (ints XS).reverse ↔ i ∈ XS := by
      rw [List.mem_reverse]; unfold ints; rw [List.mem_map]
      exact ⟨fun ⟨x, h1, h2⟩ => (by have : x = i := by omega
                                    rwa [← this]), fun h => ⟨i, h, rfl⟩⟩
    have e : decD fb XS 0 (i : Int) = decide ((i : Int) ∈ (ints XS).reverse) := by
      rw [Bool.eq_iff_iff, decide_eq_true_iff, hmem]
      exact ⟨fun h => by simpa using (decD_mem h).2.2.2, fun h => F.root i h⟩
    refine ev_step (f := fun k => hallmarklaw08_DomFirst.l0 (k + 1) (ints XS).reverse ab (i : Int) a0 fb) (fun k => rfl) ?_
    refine Ev.congr (fun k => by rw [hallmarklaw08_DomFirst.l0, if_pos (by omega), w_nat i (by omega)]) ?_
    refine Ev.bind hO (Ev.bind hH ?_)
    rw [e]
    refine Ev.congr (fun k => by rw [if_neg (by simp)]) (Ev.bind hA ?_)
    by_cases h0 : (i : Int) > 0
    rotate_left
    · exact Ev.congr (fun k => by rw [if_neg h0]) K
    refine Ev.congr (fun k => by rw [if_pos h0]) (Ev.bind hH ?_)
    by_cases hi : (i : Int) ∈ (ints XS).reverse
    rotate_left
    · exact Ev.congr (fun k => by rw [decide_eq_false hi, if_neg (by decide)]) K
    refine Ev.congr (fun k => by rw [decide_eq_true hi, if_pos rfl]) ?_
    by_cases h1 : ((ahR fb i fb.length).length : Int) = 1
    rotate_left
    · exact Ev.congr (fun k => by rw [if_neg h1]) K
    refine Ev.congr (fun k => by rw [if_pos h1, if_pos (show (0 : Int) < ((ahR fb i fb.length).length : Int) by omega)]) ?_
    obtain ⟨v, hv⟩ := List.length_eq_one_iff.1 (show (ahR fb i fb.length).length = 1 by omega)
    have hr : rd (ahR fb i fb.length) 0 = v := by rw [hv]; rfl
    rw [hr]
    by_cases h2 : v = (i : Int)
    · exact Ev.congr (fun k => by rw [if_pos h2]) K
    · refine Ev.congr (fun k => by rw [if_neg h2, if_pos (show (0 : Int) ≤ (i : Int) by omega), if_pos (show (i : Int) < (ab.length : Int) by rw [F.len]; omega), one_up F hN i (hmem.1 hi) (by omega) v hv h2, if_pos rfl]) K
end
end Go.Proofs.Ytemclhndmcjmmaa.BaseDomFirst
namespace Go.Proofs.Ytemclhndmcjmmaa.Pure
open Go Go.RowKit Go.Proofs.YtemclhndmcjmmaaW.PrintWords Go.Proofs.YtemclhndmcjmmaaW.PrintLast Go.Proofs.YtemclhndmcjmmaaW.PrintMore Go.Proofs.Ytemclhndmcjmmaa.PDomFirst Go.Proofs.Ytemclhndmcjmmaa.BaseDomFirst
theorem DomFirst : hallmarklaw08_DomFirst.Pure := by
  intro a0 fb _ _
  obtain ⟨m, hm, hfew⟩ := few_is a0 fb
  have hN : (fb.take m).length ≤ 60 := by rw [List.length_take]; omega
  obtain ⟨XS, ab, pl, F⟩ := full_ev a0 (fb.take m) hN
  have hA : Ev (fun k => dom_Above.f k a0 (fb.take m)) ab := by
    obtain ⟨K, hK⟩ := F.gr
    refine ⟨K, fun k hk => ?_⟩
    show dom_Above.f k a0 (fb.take m) = _
    unfold dom_Above.f
    have := hK k hk
    dsimp only at this
    rw [this]; rfl
  have key : Ev (fun k => hallmarklaw08_DomFirst.f k a0 fb) true := by
    refine Ev.congr (f := fun k => (dom_Above.f k a0 (fb.take m)).bind fun t218 => (if (t218.length : Int) = ((fb.take m).length : Int) then hallmarklaw08_DomFirst.l0 k (ints XS).reverse t218 ((0 : Nat) : Int) a0 (fb.take m) else some false)) (fun k => ?_) (Ev.bind hA ?_)
    · show hallmarklaw08_DomFirst.f k a0 fb = _
      unfold hallmarklaw08_DomFirst.f
      rw [hfew, Option.bind_some]
      show ((hallmarkref07_Order.f a0 (fb.take m)).bind fun t221 => _) = _
      unfold hallmarkref07_Order.f
      rw [F.left]; rfl
    · exact Ev.congr (fun k => by rw [if_pos (by rw [F.len])]) (law_l0 F hN _ 0 rfl)
  exact key.rounds
end Go.Proofs.Ytemclhndmcjmmaa.Pure
