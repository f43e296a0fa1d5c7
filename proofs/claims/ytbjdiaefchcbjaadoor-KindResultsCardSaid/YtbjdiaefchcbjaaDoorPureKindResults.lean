/- Which steps can be, of values of which types, and of which type what comes is: the program's answer is the document's. -/
import Derived.Test.YtbjdiaefchcbjaaDoorBaseKindResults
set_option linter.unusedVariables false
set_option linter.unusedSimpArgs false
set_option linter.unusedSectionVars false
namespace Go.Proofs.YtbjdiaefchcbjaaDoor.BaseKindResults
open Go Go.RowKit Go.Proofs.YtbjdiaefchcbjaaDoorW.PrintWords Go.Proofs.YtbjdiaefchcbjaaDoorW.PrintLast Go.Proofs.YtbjdiaefchcbjaaDoorW.PrintMore Go.Proofs.YtbjdiaefchcbjaaDoor.PKindResults
set_option maxRecDepth 100000
theorem uses_j1 (K a b c n : Int) (s : ByteArray) (l : List Int) (st : Bool) (hl : l.length < 17592186044000) (x : List Int) (hx : x.length ≤ 10) :
    Ev (fun k => hallmarkref04_Uses.j1 k x K a b c n s l st) (x ++ (if hasF K 67 then [c] else []) ++ (if hasF K 76 then l else [])) := by
  refine ev_step (fun k => by rw [hallmarkref04_Uses.j1]) ?_
  refine Ev.bind (has_ev K 4) ?_
  show Ev (fun n => if hasF K 67 = true then _ else _) _
  have h5 := has_ev K 5
  have i1 : x.length < 17592186044416 := by omega
  have i2 : x.length + l.length < 17592186044416 := by omega
  have i3 : (x ++ [c]).length + l.length < 17592186044416 := by rw [List.length_append, List.length_singleton]; omega
  cases hasF K 67
  · simp only [Bool.false_eq_true, if_false, List.append_nil]
    refine Ev.bind h5 ?_
    show Ev (fun n => if hasF K 76 = true then _ else _) _
    cases hasF K 76
    · simp only [Bool.false_eq_true, if_false, List.append_nil]; exact Ev.now _
    · simp only [if_true, if_pos i2]; exact Ev.now _
  · simp only [if_true, if_pos i1, Option.bind_some]
    refine Ev.bind h5 ?_
    show Ev (fun n => if hasF K 76 = true then _ else _) _
    cases hasF K 76
    · simp only [Bool.false_eq_true, if_false, List.append_nil]; exact Ev.now _
    · simp only [if_true, if_pos i3]; exact Ev.now _
theorem uses_j0 (K a b c n : Int) (s : ByteArray) (l : List Int) (st : Bool) (hl : l.length < 17592186044000) (x : List Int) (hx : x.length ≤ 9) :
    Ev (fun k => hallmarkref04_Uses.j0 k x K a b c n s l st) (x ++ (if hasF K 66 then [b] else []) ++ (if hasF K 67 then [c] else []) ++ (if hasF K 76 then l else [])) := by
  refine ev_step (fun k => by rw [hallmarkref04_Uses.j0]) ?_
  refine Ev.bind (has_ev K 3) ?_
  show Ev (fun n => if hasF K 66 = true then _ else _) _
  have i1 : x.length < 17592186044416 := by omega
  cases hasF K 66
  · simp only [Bool.false_eq_true, if_false, List.append_nil]
    exact uses_j1 K a b c n s l st hl x (by omega)
  · simp only [if_true, if_pos i1]
    exact uses_j1 K a b c n s l st hl (x ++ [b]) (by rw [List.length_append, List.length_singleton]; omega)
theorem uses_ev (K a b c n : Int) (s : ByteArray) (l : List Int) (st : Bool) (hl : l.length < 17592186044000) : Ev (fun k => hallmarkref04_Uses.f k K a b c n s l st) (usesL K a b c l) := by
  unfold hallmarkref04_Uses.f usesL
  simp only [Option.bind_some]
  refine Ev.bind (has_ev K 2) ?_
  show Ev (fun n => if hasF K 65 = true then _ else _) _
  have i1 : ([] : List Int).length < 17592186044416 := by simp
  cases hasF K 65
  · simp only [Bool.false_eq_true, if_false]
    exact uses_j0 K a b c n s l st hl [] (by simp)
  · simp only [if_true, if_pos i1]
    exact uses_j0 K a b c n s l st hl [a] (by simp)
theorem usesL_len (K a b c : Int) (l : List Int) : (usesL K a b c l).length ≤ l.length + 3 := by
  unfold usesL
  simp only [List.length_append]
  have e : ∀ (b : Bool) (x : Int), (if b = true then [x] else []).length ≤ 1 := fun b x => by cases b <;> simp
  have := e (hasF K 65) a
  have := e (hasF K 66) b
  have := e (hasF K 67) c
  have : (if hasF K 76 = true then l else []).length ≤ l.length := by split <;> simp
  omega
def nrm (x : Int × Bool) : Int × Bool := if x.2 = true then (x.1, true) else (-1, false)
theorem equal_ev (l m : List Int) (hl : l.length ≤ 9223372036854775807) : Ev (fun k => slices_Equal_int_int.f k l m) (decide (l = m)) := Ev.of (fun k => slices_Equal_int_int.mono l m k) (res_equal l m hl)
theorem is_ev (l m : List Int) (hl : l.length ≤ 9223372036854775807) : Ev (fun k => kind_is.f k l m) (decide (l = m)) := by
  unfold kind_is.f
  exact Ev.bind (equal_ev l m hl) (Ev.now _)
theorem within_is (n m : Int) : kind_within.f n m = some (inside n m) := by
  unfold kind_within.f inside
  by_cases h : n ≥ 0
  · rw [if_pos h]; simp only [Option.some.injEq]; rw [decide_eq_decide]; omega
  · rw [if_neg h, decide_eq_false (by omega)]
theorem tells_is (n : Int) : word_Tells.f n = some (tellsS n) := by
  unfold word_Tells.f word_can.f tellsS
  by_cases h : n ≥ 0
  · rw [if_pos h, Option.bind_some]
    by_cases h2 : n ≤ 13
    · rw [if_pos (decide_eq_true h2), if_neg (show ¬ (n < 0 ∨ n > 13) by omega)]
      by_cases h3 : n ≥ 10
      · rw [if_pos h3, if_pos h3]
      · rw [if_neg h3, if_neg h3]
    · rw [if_neg (by rw [decide_eq_false h2]; decide), if_pos (show n < 0 ∨ n > 13 by omega)]
  · rw [if_neg h, Option.bind_some, if_neg (by decide), if_pos (show n < 0 ∨ n > 13 by omega)]
def kS (Sg : List S73) (C : List S77) (F : List S66) (K N : Int) (S : ByteArray) (l : List Int) : Int × Bool :=
  if K = 0 then (0, true)
  else if K = 1 then (1, inside N 2)
  else if K = 2 then (2, decide ((S.size : Int) ≤ 64))
  else if K = 3 then (tellsS N, inside N 14 && decide (l = [0, 0]))
  else if K = 4 then (1, decide (l = [1]))
  else if K = 5 then (2, decide (l = [2, 2]))
  else if K = 8 then (1, decide (l = [2, 2]))
  else if K = 6 then (0, decide (l = [2]))
  else if K = 7 then (0, decide (l = [2, 0]))
  else if K = 25 then (-1, decide (l = [0]) || decide (l = [2]))
  else if K = 23 then (if inside N (F.length : Int) = true then (if ((rd_T66 F N).f1.length : Int) = 0 then (0, false) else ((rd_T66 F N).f0, decide (l = (rd_T71 (rd_T66 F N).f1 0).f0))) else (0, false))
  else if K = 24 then (if inside N (Sg.length : Int) = true then (if rd l 0 = 5 then ((rd_T73 Sg N).f1, decide (l.drop 1 = (rd_T73 Sg N).f0)) else (0, false)) else (0, false))
  else memS C K N l
theorem kres_ev (Sg : List S73) (C : List S77) (F : List S66) (K a b c N : Int) (S : ByteArray) (L : List Int) (st : Bool) (l : List Int) (hl : l.length ≤ 9223372036854775807) (hm : memOk K l) (h24 : K = 24 → 1 ≤ l.length) :
    Ev (fun k => kind_result.f k Sg C F K a b c N S L st l) (kS Sg C F K N S l) := by
  unfold kind_result.f kS
  by_cases k0 : K = 0
  · simp only [if_pos k0]; exact Ev.now _
  simp only [if_neg k0]
  by_cases k1 : K = 1
  · simp only [if_pos k1, within_is, Option.bind_some]; exact Ev.now _
  simp only [if_neg k1]
  by_cases k2 : K = 2
  · simp only [if_pos k2]; exact Ev.now _
  simp only [if_neg k2]
  by_cases k3 : K = 3
  · simp only [if_pos k3, within_is, tells_is, Option.bind_some]
    cases inside N 14 with
    | true => simp only [if_true, Bool.true_and]; exact Ev.bind (is_ev l _ hl) (Ev.now _)
    | false => simp only [Bool.false_eq_true, if_false, Bool.false_and]; exact Ev.now _
  simp only [if_neg k3]
  by_cases k4 : K = 4
  · simp only [if_pos k4]; exact Ev.bind (is_ev l _ hl) (Ev.now _)
  simp only [if_neg k4]
  by_cases k5 : K = 5
  · simp only [if_pos k5]; exact Ev.bind (is_ev l _ hl) (Ev.now _)
  simp only [if_neg k5]
  by_cases k8 : K = 8
  · simp only [if_pos k8]; exact Ev.bind (is_ev l _ hl) (Ev.now _)
  simp only [if_neg k8]
  by_cases k6 : K = 6
  · simp only [if_pos k6]; exact Ev.bind (is_ev l _ hl) (Ev.now _)
  simp only [if_neg k6]
  by_cases k7 : K = 7
  · simp only [if_pos k7]; exact Ev.bind (is_ev l _ hl) (Ev.now _)
  simp only [if_neg k7]
  by_cases k25 : K = 25
  · simp only [if_pos k25]
    refine Ev.bind (is_ev l _ hl) ?_
    cases decide (l = [0]) with
    | true => simp only [if_true, Bool.true_or]; exact Ev.now _
    | false => simp only [Bool.false_eq_true, if_false, Bool.false_or]; exact Ev.bind (is_ev l _ hl) (Ev.now _)
  simp only [if_neg k25]
  by_cases k23 : K = 23
  · simp only [if_pos k23, within_is, Option.bind_some]
    cases hN : inside N (F.length : Int) with
    | false =>
      simp only [Bool.false_eq_true, if_false]
      exact ev_step (f := fun _ => some (0, false)) (fun k => by rw [kind_result.j0, if_pos rfl]) (Ev.now _)
    | true =>
      have hN' := of_decide_eq_true hN
      simp only [if_true, if_pos hN'.1, if_pos hN'.2]
      by_cases z : ((rd_T66 F N).f1.length : Int) = 0
      · simp only [if_pos z]
        exact ev_step (f := fun _ => some (0, false)) (fun k => by rw [kind_result.j0, if_pos (beq_iff_eq.mpr z)]) (Ev.now _)
      · simp only [if_neg z]
        refine ev_step (f := fun k => (slices_Equal_int_int.f k l ((rd_T71 ((rd_T66 F N).f1) 0).f0)).bind fun t179 => (some ((rd_T66 F N).f0, t179))) (fun k => ?_) (Ev.bind (equal_ev l _ hl) (Ev.now _))
        rw [kind_result.j0, if_neg (by rw [beq_eq_false_iff_ne.mpr z]; decide), if_pos hN'.1, if_pos hN'.2, if_pos (by omega)]
  simp only [if_neg k23]
  by_cases k24 : K = 24
  · simp only [if_pos k24, within_is, Option.bind_some]
    have h1 := h24 k24
    cases hN : inside N (Sg.length : Int) with
    | false =>
      simp only [Bool.false_eq_true, if_false]
      exact ev_step (f := fun _ => some (0, false)) (fun k => by rw [kind_result.j1, if_pos rfl]) (Ev.now _)
    | true =>
      have hN' := of_decide_eq_true hN
      simp only [if_true, if_pos (show 0 < (l.length : Int) by omega)]
      by_cases z : rd l 0 = 5
      · simp only [if_pos z]
        refine ev_step (f := fun k => (slices_Equal_int_int.f k (l.drop 1) ((rd_T73 Sg N).f0)).bind fun t185 => (some ((rd_T73 Sg N).f1, t185))) (fun k => ?_) (Ev.bind (equal_ev _ _ (by rw [List.length_drop]; omega)) (Ev.now _))
        rw [kind_result.j1, if_neg (by rw [bne_eq_false_iff_eq.mpr z]; decide), if_pos hN'.1, if_pos hN'.2, if_pos (by omega)]
      · simp only [if_neg z]
        exact ev_step (f := fun _ => some (0, false)) (fun k => by rw [kind_result.j1, if_pos (bne_iff_ne.mpr z)]) (Ev.now _)
  simp only [if_neg k24]
  unfold kind_memory.f
  simp only [if_pos hm, Option.bind_some]
  exact Ev.now _
/-- how many values a step is of -/
def ar (K : Int) (m : Nat) : Nat := (if hasF K 65 = true then 1 else 0) + (if hasF K 66 = true then 1 else 0) + (if hasF K 67 = true then 1 else 0) + (if hasF K 76 = true then m else 0)
theorem usesL_ar (K a b c : Int) (l : List Int) : (usesL K a b c l).length = ar K l.length := by
  unfold usesL ar
  simp only [List.length_append]
  have e : ∀ (b : Bool) (x : Int), (if b = true then [x] else []).length = if b = true then 1 else 0 := fun b x => by cases b <;> rfl
  rw [e, e, e]
  congr 1
  split <;> rfl
theorem ar_0 (m : Nat) : ar 0 m = 0 ∧ ar 1 m = 0 ∧ ar 2 m = 0 ∧ ar 12 m = 0 ∧ ar 17 m = 0 := by
  unfold ar
  refine ⟨?_, ?_, ?_, ?_, ?_⟩
  · rw [show hasF 0 65 = false from by decide +kernel, show hasF 0 66 = false from by decide +kernel, show hasF 0 67 = false from by decide +kernel, show hasF 0 76 = false from by decide +kernel]; simp
  · rw [show hasF 1 65 = false from by decide +kernel, show hasF 1 66 = false from by decide +kernel, show hasF 1 67 = false from by decide +kernel, show hasF 1 76 = false from by decide +kernel]; simp
  · rw [show hasF 2 65 = false from by decide +kernel, show hasF 2 66 = false from by decide +kernel, show hasF 2 67 = false from by decide +kernel, show hasF 2 76 = false from by decide +kernel]; simp
  · rw [show hasF 12 65 = false from by decide +kernel, show hasF 12 66 = false from by decide +kernel, show hasF 12 67 = false from by decide +kernel, show hasF 12 76 = false from by decide +kernel]; simp
  · rw [show hasF 17 65 = false from by decide +kernel, show hasF 17 66 = false from by decide +kernel, show hasF 17 67 = false from by decide +kernel, show hasF 17 76 = false from by decide +kernel]; simp
theorem ar_1 (m : Nat) : ar 4 m = 1 ∧ ar 6 m = 1 ∧ ar 10 m = 1 ∧ ar 13 m = 1 ∧ ar 14 m = 1 ∧ ar 20 m = 1 ∧ ar 22 m = 1 ∧ ar 25 m = 1 ∧ ar 11 m = 2 ∧ ar 24 m = 1 + m := by
  unfold ar
  refine ⟨?_, ?_, ?_, ?_, ?_, ?_, ?_, ?_, ?_, ?_⟩
  · rw [show hasF 4 65 = true from by decide +kernel, show hasF 4 66 = false from by decide +kernel, show hasF 4 67 = false from by decide +kernel, show hasF 4 76 = false from by decide +kernel]; simp
  · rw [show hasF 6 65 = true from by decide +kernel, show hasF 6 66 = false from by decide +kernel, show hasF 6 67 = false from by decide +kernel, show hasF 6 76 = false from by decide +kernel]; simp
  · rw [show hasF 10 65 = true from by decide +kernel, show hasF 10 66 = false from by decide +kernel, show hasF 10 67 = false from by decide +kernel, show hasF 10 76 = false from by decide +kernel]; simp
  · rw [show hasF 13 65 = true from by decide +kernel, show hasF 13 66 = false from by decide +kernel, show hasF 13 67 = false from by decide +kernel, show hasF 13 76 = false from by decide +kernel]; simp
  · rw [show hasF 14 65 = true from by decide +kernel, show hasF 14 66 = false from by decide +kernel, show hasF 14 67 = false from by decide +kernel, show hasF 14 76 = false from by decide +kernel]; simp
  · rw [show hasF 20 65 = true from by decide +kernel, show hasF 20 66 = false from by decide +kernel, show hasF 20 67 = false from by decide +kernel, show hasF 20 76 = false from by decide +kernel]; simp
  · rw [show hasF 22 65 = true from by decide +kernel, show hasF 22 66 = false from by decide +kernel, show hasF 22 67 = false from by decide +kernel, show hasF 22 76 = false from by decide +kernel]; simp
  · rw [show hasF 25 65 = true from by decide +kernel, show hasF 25 66 = false from by decide +kernel, show hasF 25 67 = false from by decide +kernel, show hasF 25 76 = false from by decide +kernel]; simp
  · rw [show hasF 11 65 = true from by decide +kernel, show hasF 11 66 = true from by decide +kernel, show hasF 11 67 = false from by decide +kernel, show hasF 11 76 = false from by decide +kernel]; simp
  · rw [show hasF 24 65 = true from by decide +kernel, show hasF 24 66 = false from by decide +kernel, show hasF 24 67 = false from by decide +kernel, show hasF 24 76 = true from by decide +kernel]; simp
theorem one_of {l : List Int} (h : l.length = 1) : l = [rd l 0] := by
  match l, h with
  | [x], _ => rfl
theorem nil_of {l : List Int} (h : l.length = 0) : l = [] := List.length_eq_zero_iff.1 h
theorem in_yes {n m : Int} (h : 0 ≤ n ∧ n < m) : inside n m = true := decide_eq_true h
theorem in_no {n m : Int} (h : ¬ (0 ≤ n ∧ n < m)) : ¬ inside n m = true := by unfold inside; rw [decide_eq_false h]; decide
theorem in_ (n m : Int) : inside n m = (decide (0 ≤ n) && decide (n < m)) := by
  unfold inside
  rw [Bool.eq_iff_iff, Bool.and_eq_true, decide_eq_true_eq, decide_eq_true_eq, decide_eq_true_eq]
set_option maxHeartbeats 4000000 in
theorem same (Sg : List S73) (C : List S77) (F : List S66) (K N : Int) (S : ByteArray) (m : Nat) (l : List Int) (h : l.length = ar K m) : nrm (kS Sg C F K N S l) = nrm (refS Sg C F K N S l) := by
  obtain ⟨a0, a1, a2, a12, a17⟩ := ar_0 m
  obtain ⟨a4, a6, a10, a13, a14, a20, a22, a25, a11, a24⟩ := ar_1 m
  have W : ∀ x, hallmarkref04_wants.f 1 K = x → hallmarkref04_wants.f 1 K = x := fun _ h => h
  unfold hallmarkref04_wants.f at W
  simp only [hallmarkref04_wants.j0] at W
  by_cases k0 : K = 0
  · subst k0
    have e := nil_of (h.trans a0)
    subst e
    rfl
  by_cases k1 : K = 1
  · subst k1
    have e := nil_of (h.trans a1)
    subst e
    have e : inside N 2 = (N == 0 || N == 1) := by
      unfold inside
      rw [Bool.eq_iff_iff, Bool.or_eq_true, decide_eq_true_eq, beq_iff_eq, beq_iff_eq]; omega
    show nrm (1, inside N 2) = nrm (1, decide (([] : List Int) = []) && (false || (N == 0 || N == 1)) && true && true)
    rw [e]; simp
  by_cases k2 : K = 2
  · subst k2
    have e := nil_of (h.trans a2)
    subst e
    show nrm (2, decide ((S.size : Int) ≤ 64)) = nrm (2, decide (([] : List Int) = []) && true && (false || decide (S.size ≤ 64)) && true)
    have e : decide ((S.size : Int) ≤ 64) = decide (S.size ≤ 64) := by rw [decide_eq_decide]; omega
    rw [e]; simp
  by_cases k12 : K = 12
  · subst k12
    have e := nil_of (h.trans a12)
    subst e
    show nrm (3, inside N 129) = nrm (3, decide (([] : List Int) = []) && true && true && (false || (decide (0 ≤ N) && decide (N ≤ 128))))
    have e : inside N 129 = (decide (0 ≤ N) && decide (N ≤ 128)) := by
      rw [in_]; congr 1; rw [decide_eq_decide]; omega
    rw [e]; simp
  by_cases k17 : K = 17
  · subst k17
    have e := nil_of (h.trans a17)
    subst e
    rfl
  by_cases k4 : K = 4
  · subst k4
    show nrm (1, decide (l = [1])) = nrm (1, decide (l = [1]) && true && true && true)
    simp
  by_cases k5 : K = 5
  · subst k5
    show nrm (2, decide (l = [2, 2])) = nrm (2, decide (l = [2, 2]) && true && true && true)
    simp
  by_cases k8 : K = 8
  · subst k8
    show nrm (1, decide (l = [2, 2])) = nrm (1, decide (l = [2, 2]) && true && true && true)
    simp
  by_cases k6 : K = 6
  · subst k6
    show nrm (0, decide (l = [2])) = nrm (0, decide (l = [2]) && true && true && true)
    simp
  by_cases k7 : K = 7
  · subst k7
    show nrm (0, decide (l = [2, 0])) = nrm (0, decide (l = [2, 0]) && true && true && true)
    simp
  by_cases k13 : K = 13
  · subst k13
    show nrm (3, decide (l = [0])) = nrm (3, decide (l = [0]) && true && true && true)
    simp
  by_cases k14 : K = 14
  · subst k14
    show nrm (0, decide (l = [3])) = nrm (0, decide (l = [3]) && true && true && true)
    simp
  by_cases k15 : K = 15
  · subst k15
    show nrm (0, decide (l = [3, 0])) = nrm (0, decide (l = [3, 0]) && true && true && true)
    simp
  by_cases k16 : K = 16
  · subst k16
    show nrm ((-1), decide (l = [3, 0, 0])) = nrm ((-1), decide (l = [3, 0, 0]) && true && true && true)
    simp
  by_cases k18 : K = 18
  · subst k18
    show nrm ((-1), decide (l = [4, 0, 0])) = nrm ((-1), decide (l = [4, 0, 0]) && true && true && true)
    simp
  by_cases k19 : K = 19
  · subst k19
    show nrm (0, decide (l = [4, 0])) = nrm (0, decide (l = [4, 0]) && true && true && true)
    simp
  by_cases k20 : K = 20
  · subst k20
    show nrm (0, decide (l = [4])) = nrm (0, decide (l = [4]) && true && true && true)
    simp
  by_cases k21 : K = 21
  · subst k21
    show nrm (0, decide (l = [4, 0])) = nrm (0, decide (l = [4, 0]) && true && true && true)
    simp
  have hN : hallmarkref04_wants.f 1 K = some ([], -1, false) := by
    unfold hallmarkref04_wants.f
    simp only [hallmarkref04_wants.j0]
    rw [if_neg k0, if_neg k1, if_neg k2, if_neg k12, if_neg k17, if_neg k4, if_neg k5, if_neg k8, if_neg k6, if_neg k7, if_neg k13, if_neg k14, if_neg k15, if_neg k16, if_neg k18, if_neg k19, if_neg (by rw [beq_eq_false_iff_ne.mpr k21]; decide), if_neg k20]
  unfold refS
  rw [hN]
  dsimp only
  by_cases k3 : K = 3
  · subst k3
    show nrm (tellsS N, inside N 14 && decide (l = [0, 0])) = nrm (tellsS N, decide (0 ≤ N) && decide (N ≤ 13) && decide (l = [0, 0]))
    have e : inside N 14 = (decide (0 ≤ N) && decide (N ≤ 13)) := by
      rw [in_]; congr 1; rw [decide_eq_decide]; omega
    rw [e]
  by_cases k25 : K = 25
  · subst k25
    have e := one_of (h.trans a25)
    show nrm (-1, decide (l = [0]) || decide (l = [2])) = nrm (-1, rd l 0 == 0 || rd l 0 == 2)
    have e1 : ∀ x : Int, decide (l = [x]) = (rd l 0 == x) := fun x => by
      rw [Bool.eq_iff_iff, decide_eq_true_eq, beq_iff_eq]
      constructor
      · intro h; rw [h]; rfl
      · intro h; rw [e, h]
    rw [e1, e1]
  by_cases k22 : K = 22
  · subst k22; rfl
  by_cases k9 : K = 9
  · subst k9
    show nrm (if inside N (C.length : Int) = true then (wrap64 (6 + N), decide (l = (rd_T77 C N).f0)) else (0, false)) = nrm (if 0 ≤ N ∧ N < (C.length : Int) then (wrap64 (6 + N), decide (l = (rd_T77 C N).f0)) else (-1, false))
    by_cases z : 0 ≤ N ∧ N < (C.length : Int)
    · rw [if_pos (in_yes z), if_pos z]
    · rw [if_neg (in_no z), if_neg z]; rfl
  by_cases k10 : K = 10
  · subst k10
    show nrm (if okClass (rd l 0) C.length = true then (if inside N ((rd_T77 C (rd l 0 - 6)).f0.length : Int) = true then (rd (rd_T77 C (rd l 0 - 6)).f0 N, true) else (0, false)) else (0, false)) = nrm (if okClass (rd l 0) C.length = true then (if 0 ≤ N ∧ N < ((rd_T77 C (rd l 0 - 6)).f0.length : Int) then (rd (rd_T77 C (rd l 0 - 6)).f0 N, true) else (-1, false)) else (-1, false))
    by_cases y : okClass (rd l 0) C.length = true
    · rw [if_pos y, if_pos y]
      by_cases z : 0 ≤ N ∧ N < ((rd_T77 C (rd l 0 - 6)).f0.length : Int)
      · rw [if_pos (in_yes z), if_pos z]
      · rw [if_neg (in_no z), if_neg z]; rfl
    · rw [if_neg y, if_neg y]; rfl
  by_cases k11 : K = 11
  · subst k11
    show nrm (if okClass (rd l 0) C.length = true then (if inside N ((rd_T77 C (rd l 0 - 6)).f0.length : Int) = true then (-1, decide (rd l 1 = rd (rd_T77 C (rd l 0 - 6)).f0 N)) else (0, false)) else (0, false)) = nrm (if okClass (rd l 0) C.length = true then (if 0 ≤ N ∧ N < ((rd_T77 C (rd l 0 - 6)).f0.length : Int) then (-1, decide (rd l 1 = rd (rd_T77 C (rd l 0 - 6)).f0 N)) else (-1, false)) else (-1, false))
    by_cases y : okClass (rd l 0) C.length = true
    · rw [if_pos y, if_pos y]
      by_cases z : 0 ≤ N ∧ N < ((rd_T77 C (rd l 0 - 6)).f0.length : Int)
      · rw [if_pos (in_yes z), if_pos z]
      · rw [if_neg (in_no z), if_neg z]; rfl
    · rw [if_neg y, if_neg y]; rfl
  by_cases k23 : K = 23
  · subst k23
    show nrm (if inside N (F.length : Int) = true then (if ((rd_T66 F N).f1.length : Int) = 0 then (0, false) else ((rd_T66 F N).f0, decide (l = (rd_T71 (rd_T66 F N).f1 0).f0))) else (0, false)) = nrm (if 0 ≤ N ∧ N < (F.length : Int) then (if (rd_T66 F N).f1.length = 0 then (-1, false) else ((rd_T66 F N).f0, decide (l = (rd_T71 (rd_T66 F N).f1 0).f0))) else (-1, false))
    by_cases z : 0 ≤ N ∧ N < (F.length : Int)
    · rw [if_pos (in_yes z), if_pos z]
      by_cases y : (rd_T66 F N).f1.length = 0
      · rw [if_pos (by omega), if_pos y]; rfl
      · rw [if_neg (by omega), if_neg y]
    · rw [if_neg (in_no z), if_neg z]; rfl
  by_cases k24 : K = 24
  · subst k24
    show nrm (if inside N (Sg.length : Int) = true then (if rd l 0 = 5 then ((rd_T73 Sg N).f1, decide (l.drop 1 = (rd_T73 Sg N).f0)) else (0, false)) else (0, false)) = nrm (if 0 ≤ N ∧ N < (Sg.length : Int) then (if rd l 0 = 5 then ((rd_T73 Sg N).f1, decide (l.drop 1 = (rd_T73 Sg N).f0)) else (-1, false)) else (-1, false))
    by_cases z : 0 ≤ N ∧ N < (Sg.length : Int)
    · rw [if_pos (in_yes z), if_pos z]
      by_cases y : rd l 0 = 5
      · rw [if_pos y, if_pos y]
      · rw [if_neg y, if_neg y]; rfl
    · rw [if_neg (in_no z), if_neg z]; rfl
  have e1 : kS Sg C F K N S l = (0, false) := by simp [kS, memS, k0, k1, k2, k3, k4, k5, k6, k7, k8, k9, k10, k11, k12, k13, k14, k15, k16, k17, k18, k19, k20, k21, k22, k23, k24, k25]
  have e2 : refN Sg C F K N l = (-1, false) := by simp [refN, k3, k25, k22, k9, k10, k11, k23, k24]
  rw [e1, e2]; rfl
theorem nrm_is (x : Int × Bool) : (if x.2 = true then some (x.1, true) else some ((-1 : Int), false)) = some (nrm x) := by
  unfold nrm
  split <;> rfl
set_option maxHeartbeats 4000000 in
theorem kS_plain (Sg : List S73) (C : List S77) (F : List S66) (K N : Int) (S : ByteArray) (l : List Int) : kS Sg C F K (if hasF K 78 then N else 0) (if hasF K 83 then S else ByteArray.empty) l = kS Sg C F K N S l := by
  have hN : ∀ k : Int, hasF k 78 = true → K = k → kS Sg C F K (if hasF K 78 then N else 0) (if hasF K 83 then S else ByteArray.empty) l = kS Sg C F K N (if hasF K 83 then S else ByteArray.empty) l := fun k h e => by rw [e, h, if_pos rfl]
  have hS : K ≠ 2 → ∀ S' N', kS Sg C F K N' S' l = kS Sg C F K N' S l := fun h S' N' => by simp [kS, h]
  by_cases k2 : K = 2
  · subst k2
    rw [show hasF 2 83 = true from by decide +kernel]
    simp [kS]
  rw [hS k2]
  by_cases k1 : K = 1
  · rw [k1, show hasF 1 78 = true from by decide +kernel, if_pos rfl]
  by_cases k3 : K = 3
  · rw [k3, show hasF 3 78 = true from by decide +kernel, if_pos rfl]
  by_cases k9 : K = 9
  · rw [k9, show hasF 9 78 = true from by decide +kernel, if_pos rfl]
  by_cases k10 : K = 10
  · rw [k10, show hasF 10 78 = true from by decide +kernel, if_pos rfl]
  by_cases k11 : K = 11
  · rw [k11, show hasF 11 78 = true from by decide +kernel, if_pos rfl]
  by_cases k12 : K = 12
  · rw [k12, show hasF 12 78 = true from by decide +kernel, if_pos rfl]
  by_cases k23 : K = 23
  · rw [k23, show hasF 23 78 = true from by decide +kernel, if_pos rfl]
  by_cases k24 : K = 24
  · rw [k24, show hasF 24 78 = true from by decide +kernel, if_pos rfl]
  simp [kS, memS, k1, k3, k9, k10, k11, k12, k23, k24]
theorem usesL_plain (K a b c : Int) (l : List Int) : usesL K (if hasF K 65 then a else 0) (if hasF K 66 then b else 0) (if hasF K 67 then c else 0) (if hasF K 76 then l else []) = usesL K a b c l := by
  unfold usesL
  cases hasF K 65 <;> cases hasF K 66 <;> cases hasF K 67 <;> cases hasF K 76 <;> rfl
def good (T : List Int) (v : Int) : Prop := 0 ≤ v ∧ v < (T.length : Int)
section
variable (Sg : List S73) (C : List S77) (F : List S66) (K a b c N : Int) (S : ByteArray) (L : List Int) (st : Bool) (T u : List Int)
include T u
theorem rd_at (i : Nat) (h : i < u.length) : rd u (i : Int) = u[i] := res_rd u i h
theorem take_map (i : Nat) (h : i < u.length) : (u.take (i + 1)).map (rd T) = (u.take i).map (rd T) ++ [rd T (rd u (i : Int))] := by
  rw [List.take_succ_eq_append_getElem h, List.map_append, rd_at T u i h]; rfl
theorem k_good (hu : u.length < 17592186044000) (R : Int × Bool) (hR : Ev (fun k => kind_result.f k Sg C F K a b c N S L st (u.map (rd T))) R) (hg : ∀ v ∈ u, good T v) :
    ∀ (d i : Nat), d + i = u.length → Ev (fun k => kind_Result.l0 k T ((u.take i).map (rd T)) u (u.length : Int) (i : Int) Sg C F K a b c N S L st) (nrm R) := by
  intro d
  induction d with
  | zero =>
    intro i hd
    have hi : i = u.length := by omega
    refine ev_step (f := fun k => (kind_result.f k Sg C F K a b c N S L st (u.map (rd T))).bind fun x => some (nrm x)) (fun k => ?_) (Ev.bind hR (Ev.now _))
    rw [kind_Result.l0, if_neg (by omega), hi, List.take_length]
    exact congrArg _ (funext fun x => nrm_is x)
  | succ d ih =>
    intro i hd
    have hi : i < u.length := by omega
    have hv := hg (rd u (i : Int)) (by rw [rd_at T u i hi]; exact List.getElem_mem hi)
    refine ev_step (fun k => ?_) (ih (i + 1) (by omega))
    rw [kind_Result.l0, if_pos (by omega), if_pos (by omega), if_pos (by omega), if_neg (by have := hv.1; omega), if_neg (by have := hv.2; omega), if_pos hv.1, if_pos hv.2, if_pos (by rw [List.length_map, List.length_take]; omega), take_map T u i hi, w_nat i (by omega)]
theorem k_bad (hu : u.length < 17592186044000) : ∀ (d i : Nat), d + i = u.length → (∃ j : Nat, i ≤ j ∧ ∃ h : j < u.length, ¬ good T u[j]) → Ev (fun k => kind_Result.l0 k T ((u.take i).map (rd T)) u (u.length : Int) (i : Int) Sg C F K a b c N S L st) (-1, false) := by
  intro d
  induction d with
  | zero => intro i hd ⟨j, h1, h2, _⟩; omega
  | succ d ih =>
    intro i hd ⟨j, h1, h2, hb⟩
    have hi : i < u.length := by omega
    by_cases z : rd u (i : Int) < 0
    · refine ev_step (f := fun _ => some (-1, false)) (fun k => ?_) (Ev.now _)
      rw [kind_Result.l0, if_pos (by omega), if_pos (by omega), if_pos (by omega), if_pos z]
    by_cases z2 : rd u (i : Int) ≥ (T.length : Int)
    · refine ev_step (f := fun _ => some (-1, false)) (fun k => ?_) (Ev.now _)
      rw [kind_Result.l0, if_pos (by omega), if_pos (by omega), if_pos (by omega), if_neg z, if_pos z2]
    have hj : i ≠ j := fun e => hb (by
      have e2 := rd_at T u i hi
      subst e
      exact ⟨by omega, by omega⟩)
    refine ev_step (fun k => ?_) (ih (i + 1) (by omega) ⟨j, by omega, h2, hb⟩)
    rw [kind_Result.l0, if_pos (by omega), if_pos (by omega), if_pos (by omega), if_neg z, if_neg z2, if_pos (by omega), if_pos (by omega), if_pos (by rw [List.length_map, List.length_take]; omega), take_map T u i hi, w_nat i (by omega)]
theorem r_good (hu : u.length < 17592186044000) (hok : refOk K (u.map (rd T))) (hg : ∀ v ∈ u, good T v) :
    ∀ (d i : Nat), d + i = u.length → Ev (fun k => hallmarkref04_Result.l0 k T u ((u.take i).map (rd T)) (i : Int) Sg C F K a b c N S L st) (nrm (refS Sg C F K N S (u.map (rd T)))) := by
  intro d
  induction d with
  | zero =>
    intro i hd
    have hi : i = u.length := by omega
    refine ev_step (f := fun k => some (nrm (refS Sg C F K N S (u.map (rd T))))) (fun k => ?_) (Ev.now _)
    rw [hallmarkref04_Result.l0, if_neg (by omega), hi, List.take_length]
    unfold hallmarkref04_result.f
    rw [if_pos hok, Option.bind_some]
    exact nrm_is _
  | succ d ih =>
    intro i hd
    have hi : i < u.length := by omega
    have hv := hg (rd u (i : Int)) (by rw [rd_at T u i hi]; exact List.getElem_mem hi)
    refine ev_step (fun k => ?_) (ih (i + 1) (by omega))
    rw [hallmarkref04_Result.l0, if_pos (by omega), if_pos (by omega), if_neg (by have := hv.1; omega), if_neg (by have := hv.2; omega), if_pos hv.1, if_pos hv.2, if_pos (by rw [List.length_map, List.length_take]; omega), take_map T u i hi, w_nat i (by omega)]
theorem r_bad (hu : u.length < 17592186044000) : ∀ (d i : Nat), d + i = u.length → (∃ j : Nat, i ≤ j ∧ ∃ h : j < u.length, ¬ good T u[j]) → Ev (fun k => hallmarkref04_Result.l0 k T u ((u.take i).map (rd T)) (i : Int) Sg C F K a b c N S L st) (-1, false) := by
  intro d
  induction d with
  | zero => intro i hd ⟨j, h1, h2, _⟩; omega
  | succ d ih =>
    intro i hd ⟨j, h1, h2, hb⟩
    have hi : i < u.length := by omega
    by_cases z : rd u (i : Int) < 0
    · refine ev_step (f := fun _ => some (-1, false)) (fun k => ?_) (Ev.now _)
      rw [hallmarkref04_Result.l0, if_pos (by omega), if_pos (by omega), if_pos z]
    by_cases z2 : rd u (i : Int) ≥ (T.length : Int)
    · refine ev_step (f := fun _ => some (-1, false)) (fun k => ?_) (Ev.now _)
      rw [hallmarkref04_Result.l0, if_pos (by omega), if_pos (by omega), if_neg z, if_pos z2]
    have hj : i ≠ j := fun e => hb (by
      have e2 := rd_at T u i hi
      subst e
      exact ⟨by omega, by omega⟩)
    refine ev_step (fun k => ?_) (ih (i + 1) (by omega) ⟨j, by omega, h2, hb⟩)
    rw [hallmarkref04_Result.l0, if_pos (by omega), if_pos (by omega), if_neg z, if_neg z2, if_pos (by omega), if_pos (by omega), if_pos (by rw [List.length_map, List.length_take]; omega), take_map T u i hi, w_nat i (by omega)]
end
theorem oks (K a b c : Int) (L T : List Int) (hT : ∀ x ∈ T, -9223372036854775808 ≤ x ∧ x ≤ 9223372036854775807) (hg : ∀ v ∈ usesL K a b c L, good T v) : memOk K ((usesL K a b c L).map (rd T)) ∧ refOk K ((usesL K a b c L).map (rd T)) := by
  obtain ⟨a4, a6, a10, a13, a14, a20, a22, a25, a11, a24⟩ := ar_1 L.length
  have hl : ((usesL K a b c L).map (rd T)).length = ar K L.length := by rw [List.length_map, usesL_ar]
  have hx : ∀ x ∈ (usesL K a b c L).map (rd T), -9223372036854775808 ≤ x ∧ x ≤ 9223372036854775807 := fun x hx => by
    obtain ⟨v, hv, rfl⟩ := List.mem_map.1 hx
    have g := hg v hv
    refine hT _ ?_
    obtain ⟨n, rfl⟩ := Int.eq_ofNat_of_zero_le g.1
    exact at_mid T n (by have := g.2; omega)
  refine ⟨⟨?_, ?_, hx⟩, ?_, ?_, hx⟩
  · rintro (e | e) <;> subst e <;> rw [hl] <;> omega
  · intro e; subst e; rw [hl]; omega
  · rintro (e | e | e | e) <;> subst e <;> rw [hl] <;> omega
  · intro e; subst e; rw [hl]; omega
/-- What both come to. -/
noncomputable def both (Sg : List S73) (C : List S77) (F : List S66) (K a b c N : Int) (S : ByteArray) (L T : List Int) : Int × Bool := open Classical in
  if ∀ v ∈ usesL K a b c L, good T v then nrm (refS Sg C F K N S ((usesL K a b c L).map (rd T))) else (-1, false)
theorem bad_of {T u : List Int} (h : ¬ ∀ v ∈ u, good T v) : ∃ j : Nat, 0 ≤ j ∧ ∃ h : j < u.length, ¬ good T u[j] := by
  apply Classical.byContradiction
  intro hn
  apply h
  intro v hv
  obtain ⟨j, hj, rfl⟩ := List.getElem_of_mem hv
  apply Classical.byContradiction
  intro hb
  exact hn ⟨j, Nat.zero_le _, hj, hb⟩
theorem kR_ev (Sg : List S73) (C : List S77) (F : List S66) (K a b c N : Int) (S : ByteArray) (L : List Int) (st : Bool) (T : List Int) (hL : L.length < 17592186043910) (hT : ∀ x ∈ T, -9223372036854775808 ≤ x ∧ x ≤ 9223372036854775807) : Ev (fun k => kind_Result.f k Sg C F K a b c N S L st T) (both Sg C F K a b c N S L T) := by
  have hu := usesL_len K a b c L
  have hf : ∀ k, kind_Result.f k Sg C F K a b c N S L st T = kind_Result.l0 k T (((usesL K a b c L).take 0).map (rd T)) (usesL K a b c L) ((usesL K a b c L).length : Int) ((0 : Nat) : Int) Sg C F K a b c N S L st := fun k => by
    unfold kind_Result.f kind_uses.f
    rw [if_pos (by omega), Option.bind_some]; rfl
  refine Ev.congr hf ?_
  unfold both
  by_cases hg : ∀ v ∈ usesL K a b c L, good T v
  · rw [if_pos hg]
    obtain ⟨h1, h2⟩ := oks K a b c L T hT hg
    have hl : ((usesL K a b c L).map (rd T)).length = ar K L.length := by rw [List.length_map, usesL_ar]
    rw [← same Sg C F K N S L.length _ hl]
    exact k_good Sg C F K a b c N S L st T _ (by omega) _ (kres_ev Sg C F K a b c N S L st _ (by rw [List.length_map]; omega) h1 (fun e => h2.1 (by simp [e]))) hg (usesL K a b c L).length 0 (Nat.add_zero _)
  · rw [if_neg hg]
    exact k_bad Sg C F K a b c N S L st T _ (by omega) (usesL K a b c L).length 0 (Nat.add_zero _) (bad_of hg)
theorem rR_ev (Sg : List S73) (C : List S77) (F : List S66) (K a b c N : Int) (S : ByteArray) (L : List Int) (st : Bool) (T : List Int) (hL : L.length < 17592186043910) (hT : ∀ x ∈ T, -9223372036854775808 ≤ x ∧ x ≤ 9223372036854775807) : Ev (fun k => hallmarkref04_Result.f k Sg C F K a b c N S L st T) (both Sg C F K a b c N S L T) := by
  have hu := usesL_len K a b c L
  unfold hallmarkref04_Result.f
  refine Ev.bind (uses_ev K a b c N S L st (by omega)) ?_
  unfold both
  by_cases hg : ∀ v ∈ usesL K a b c L, good T v
  · rw [if_pos hg]
    obtain ⟨h1, h2⟩ := oks K a b c L T hT hg
    exact r_good Sg C F K a b c N S L st T _ (by omega) h2 hg (usesL K a b c L).length 0 (Nat.add_zero _)
  · rw [if_neg hg]
    exact r_bad Sg C F K a b c N S L st T _ (by omega) (usesL K a b c L).length 0 (Nat.add_zero _) (bad_of hg)
theorem both_plain (Sg : List S73) (C : List S77) (F : List S66) (K a b c N : Int) (S : ByteArray) (L T : List Int) : both Sg C F K (if hasF K 65 then a else 0) (if hasF K 66 then b else 0) (if hasF K 67 then c else 0) (if hasF K 78 then N else 0) (if hasF K 83 then S else ByteArray.empty) (if hasF K 76 then L else []) T = both Sg C F K a b c N S L T := by
  unfold both
  rw [usesL_plain]
  by_cases hg : ∀ v ∈ usesL K a b c L, good T v
  · rw [if_pos hg, if_pos hg]
    have hl : ((usesL K a b c L).map (rd T)).length = ar K L.length := by rw [List.length_map, usesL_ar]
    rw [← same Sg C F K N S L.length _ hl, ← same Sg C F K _ _ L.length _ hl, kS_plain]
  · rw [if_neg hg, if_neg hg]
theorem wf64 {x : Int} (h : (Lit.int .i64 x).wf = true) : -9223372036854775808 ≤ x ∧ x ≤ 9223372036854775807 := by
  have h' : (decide (IntKind.i64.min ≤ x) && decide (x ≤ IntKind.i64.max)) = true := h
  rw [Bool.and_eq_true, decide_eq_true_eq, decide_eq_true_eq, show IntKind.i64.min = -9223372036854775808 by decide, show IntKind.i64.max = 9223372036854775807 by decide] at h'
  exact h'
end Go.Proofs.YtbjdiaefchcbjaaDoor.BaseKindResults
namespace Go.Proofs.YtbjdiaefchcbjaaDoor.Pure
open Go Go.RowKit Go.Proofs.YtbjdiaefchcbjaaDoorW.PrintWords Go.Proofs.YtbjdiaefchcbjaaDoorW.PrintLast Go.Proofs.YtbjdiaefchcbjaaDoorW.PrintMore Go.Proofs.YtbjdiaefchcbjaaDoor.PKindResults Go.Proofs.YtbjdiaefchcbjaaDoor.BaseKindResults
theorem KindResults : hallmarklaw04_KindResults.Pure := by
  intro Sg C F K a b c N S L st T _ _ _ _ _ _ _ _ _ hL _ hT
  have hL' : L.length < 17592186043910 := by omega
  have hT' : ∀ x ∈ T, -9223372036854775808 ≤ x ∧ x ≤ 9223372036854775807 := fun x hx => wf64 (hT.2.2 x hx)
  have hT2 : ([] : List Int).length + T.length < 17592186044416 := by simp; omega
  refine Ev.rounds ?_
  unfold hallmarklaw04_KindResults.f
  obtain ⟨sm, hsm⟩ : ∃ sm, hallmarklaw04_small.f Sg C F = some sm := by
    unfold hallmarklaw04_small.f
    repeat' split
    all_goals exact ⟨_, rfl⟩
  rw [hsm]
  simp only [Option.bind_some]
  cases sm with
  | false =>
    simp only [Bool.false_eq_true, if_false, hallmarklaw04_lives.f, Option.bind_some]
    exact Ev.now _
  | true =>
    have hLp : (if hasF K 76 = true then L else []).length < 17592186043910 := by split; exact hL'; simp
    simp only [if_true, own_is K a b c N S L st (by omega), plain_f K a b c N S L st (by omega), Option.bind_some, if_pos hT2, List.nil_append]
    refine Ev.bind (kR_ev Sg C F K a b c N S L st T hL' hT') ?_
    refine Ev.bind (rR_ev Sg C F K a b c N S L st T hL' hT') ?_
    refine Ev.bind (kR_ev Sg C F K _ _ _ _ _ _ _ T hLp hT') ?_
    rw [both_plain]
    simp only [if_true, beq_self_eq_true, hallmarklaw04_lives.f, Option.bind_some]
    exact Ev.now _
end Go.Proofs.YtbjdiaefchcbjaaDoor.Pure
