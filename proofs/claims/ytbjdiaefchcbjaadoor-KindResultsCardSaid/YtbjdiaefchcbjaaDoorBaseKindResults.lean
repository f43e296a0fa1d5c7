/- What steps are of, by their kind: plain words on which the laws of layer 4 lean. -/
import Derived.Test.YtbjdiaefchcbjaaDoorPKindResultsx
namespace Go.Proofs.YtbjdiaefchcbjaaDoor.BaseKindResults
open Go Go.RowKit Go.Proofs.YtbjdiaefchcbjaaDoorW.PrintWords Go.Proofs.YtbjdiaefchcbjaaDoorW.PrintLast Go.Proofs.YtbjdiaefchcbjaaDoorW.PrintMore Go.Proofs.YtbjdiaefchcbjaaDoor.PKindResults
set_option maxRecDepth 100000
theorem ev_step {α : Type} {g f : Nat → Option α} {r : α} (h : ∀ k, g (k + 1) = f k) (k : Ev f r) : Ev g r := Ev.step h k
theorem w_nat (i : Nat) (h : i < 9223372036854775807) : wrap64 ((i : Int) + 1) = ((i + 1 : Nat) : Int) := by unfold wrap64; omega
theorem ints_l (l : List Int) (hl : l.length ≤ 9223372036854775000) : ∀ (d i : Nat), d + i = l.length → Ev (fun k => hallmarkref04_Ints.l0 k l l (i : Int)) true := by
  intro d
  induction d with
  | zero =>
    intro i hd
    refine ev_step (f := fun _ => some true) (fun k => ?_) (Ev.now _)
    show hallmarkref04_Ints.l0 (k + 1) l l (i : Int) = some true
    rw [hallmarkref04_Ints.l0, if_neg (by omega)]
  | succ d ih =>
    intro i hd
    refine ev_step (f := fun k => hallmarkref04_Ints.l0 k l l ((i + 1 : Nat) : Int)) (fun k => ?_) (ih (i + 1) (by omega))
    show hallmarkref04_Ints.l0 (k + 1) l l (i : Int) = _
    have h1 : (i : Int) < (l.length : Int) := by omega
    rw [hallmarkref04_Ints.l0, if_pos h1, if_pos (by omega), if_pos h1, if_pos rfl, w_nat i (by omega)]
theorem ints_ev (l : List Int) (hl : l.length ≤ 9223372036854775000) : Ev (fun k => hallmarkref04_Ints.f k l l) true := by
  refine Ev.congr (f := fun k => hallmarkref04_Ints.l0 k l l ((0 : Nat) : Int)) (fun k => ?_) (ints_l l hl l.length 0 (by omega))
  show hallmarkref04_Ints.f k l l = _
  unfold hallmarkref04_Ints.f
  rw [if_pos rfl]; rfl
theorem own_is (K a b c n : Int) (s : ByteArray) (l : List Int) (st : Bool) (hl : l.length < 17592186044000) : hallmarklaw04_own.f K a b c n s l st = some (K, a, b, c, n, s, l, st) := by
  unfold hallmarklaw04_own.f
  have h : ([] : List Int).length + l.length < 17592186044416 := by simp; omega
  simp only [Option.bind_some, if_pos h, List.nil_append]
theorem plain_f (K a b c n : Int) (s : ByteArray) (l : List Int) (st : Bool) (hl : l.length < 17592186044000) : kind_Plain.f K a b c n s l st = some (K, (if hasF K 65 then a else 0), (if hasF K 66 then b else 0), (if hasF K 67 then c else 0), (if hasF K 78 then n else 0), (if hasF K 83 then s else ByteArray.empty), (if hasF K 76 then l else []), (if hasF K 75 then st else false)) := by
  unfold kind_Plain.f kind_plain.f
  rw [if_pos (by omega)]
  rfl
theorem kinds (K : Int) (h : 0 ≤ K) (h' : K < 26) : K = 0 ∨ K = 1 ∨ K = 2 ∨ K = 3 ∨ K = 4 ∨ K = 5 ∨ K = 6 ∨ K = 7 ∨ K = 8 ∨ K = 9 ∨ K = 10 ∨ K = 11 ∨ K = 12 ∨ K = 13 ∨ K = 14 ∨ K = 15 ∨ K = 16 ∨ K = 17 ∨ K = 18 ∨ K = 19 ∨ K = 20 ∨ K = 21 ∨ K = 22 ∨ K = 23 ∨ K = 24 ∨ K = 25 := by omega
theorem not_kinds (K : Int) (h : ¬ (0 ≤ K ∧ K < 26)) : K ≠ 0 ∧ K ≠ 1 ∧ K ≠ 2 ∧ K ≠ 3 ∧ K ≠ 4 ∧ K ≠ 5 ∧ K ≠ 6 ∧ K ≠ 7 ∧ K ≠ 8 ∧ K ≠ 9 ∧ K ≠ 10 ∧ K ≠ 11 ∧ K ≠ 12 ∧ K ≠ 13 ∧ K ≠ 14 ∧ K ≠ 15 ∧ K ≠ 16 ∧ K ≠ 17 ∧ K ≠ 18 ∧ K ≠ 19 ∧ K ≠ 20 ∧ K ≠ 21 ∧ K ≠ 22 ∧ K ≠ 23 ∧ K ≠ 24 ∧ K ≠ 25 := by
  refine ⟨?_, ?_, ?_, ?_, ?_, ?_, ?_, ?_, ?_, ?_, ?_, ?_, ?_, ?_, ?_, ?_, ?_, ?_, ?_, ?_, ?_, ?_, ?_, ?_, ?_, ?_⟩ <;> omega
set_option maxHeartbeats 4000000 in
theorem fields_8 (K : Int) : hallmarkref04_Fields.f 8 K = some (fieldsL K) := by
  by_cases hK : 0 ≤ K ∧ K < 26
  · rcases kinds K hK.1 hK.2 with h | h | h | h | h | h | h | h | h | h | h | h | h | h | h | h | h | h | h | h | h | h | h | h | h | h <;> subst h <;>
      simp [hallmarkref04_Fields.f, hallmarkref04_Fields.j0, hallmarkref04_Fields.j1, hallmarkref04_Fields.j2, hallmarkref04_Fields.j3, hallmarkref04_Fields.j4, fieldsL, Door.kind_fields_tab]
  · have e : fieldsL K = ByteArray.empty := by unfold fieldsL; rw [if_neg hK]
    rw [e]
    obtain ⟨h0, h1, h2, h3, h4, h5, h6, h7, h8, h9, h10, h11, h12, h13, h14, h15, h16, h17, h18, h19, h20, h21, h22, h23, h24, h25⟩ := not_kinds K hK
    simp [hallmarkref04_Fields.f, hallmarkref04_Fields.j0, hallmarkref04_Fields.j1, hallmarkref04_Fields.j2, hallmarkref04_Fields.j3, hallmarkref04_Fields.j4, h0, h1, h2, h3, h4, h5, h6, h7, h8, h9, h10, h11, h12, h13, h14, h15, h16, h17, h18, h19, h20, h21, h22, h23, h24, h25]
    rfl
theorem fields_ev (K : Int) : Ev (fun k => hallmarkref04_Fields.f k K) (fieldsL K) := Ev.of (fun k => hallmarkref04_Fields.mono K k) (fields_8 K)
theorem has_in : ∀ n : Fin 26, ∀ c : Fin 7, hallmarkref04_Has.f 12 (n.val : Int) ([78, 83, 65, 66, 67, 76, 75].getD c.val 0) = some (hasF (n.val : Int) ([78, 83, 65, 66, 67, 76, 75].getD c.val 0)) := by decide +kernel
theorem has_ev (K : Int) (c : Fin 7) : Ev (fun k => hallmarkref04_Has.f k K ([78, 83, 65, 66, 67, 76, 75].getD c.val 0)) (hasF K ([78, 83, 65, 66, 67, 76, 75].getD c.val 0)) := by
  refine Ev.of (fun k => hallmarkref04_Has.mono K _ k) (k := 12) ?_
  by_cases hK : 0 ≤ K ∧ K < 26
  · have h := has_in ⟨K.toNat, by omega⟩ c
    rw [show ((K.toNat : Nat) : Int) = K by omega] at h
    exact h
  · have e : fieldsL K = ByteArray.empty := by unfold fieldsL; rw [if_neg hK]
    have hf : hallmarkref04_Fields.f 12 K = some ByteArray.empty := by
      obtain ⟨N, hN⟩ := fields_ev K
      have h8 := fields_8 K
      have m := hallmarkref04_Fields.mono K
      rw [← e]
      exact m 11 _ (m 10 _ (m 9 _ (m 8 _ h8)))
    unfold hallmarkref04_Has.f
    rw [hf]
    have h2 : hasF K ([78, 83, 65, 66, 67, 76, 75].getD c.val 0) = false := by unfold hasF; rw [e]; rfl
    rw [h2]
    rfl
theorem twice {α : Type} (h : Bool) (x z : α) : (if h = true then (if h = true then x else z) else z) = (if h = true then x else z) := by cases h <;> rfl
end Go.Proofs.YtbjdiaefchcbjaaDoor.BaseKindResults
