import Derived.Test.YtbjdiaefchcbjaaDoorPKindFlagsx8
namespace Go.Proofs.YtbjdiaefchcbjaaDoor.Pure
open Go.RowKit Go.Proofs.YtbjdiaefchcbjaaDoor.PKindFlags Go.Proofs.YtbjdiaefchcbjaaDoorW.PrintWords Go.Proofs.YtbjdiaefchcbjaaDoorW.PrintLast
set_option maxRecDepth 100000
theorem own_is (K a b c n : Int) (s : ByteArray) (l : List Int) (st : Bool) (hl : l.length * 8 ≤ 140737488351232) : hallmarklaw04_own.f K a b c n s l st = some (K, a, b, c, n, s, l, st) := by
  unfold hallmarklaw04_own.f
  have h : ([] : List Int).length + l.length < 17592186044416 := by simp; omega
  simp only [Option.bind_some, if_pos h, List.nil_append]
theorem hasN3 : hasF 3 78 = true := by decide +kernel
/-- What a step may do: by its kind, and for arithmetic by its sign. -/
def flagsOf (K n : Int) : Int :=
  if K = 3 then (if n = 3 ∨ n = 4 then 1 else 0) else if K = 5 ∨ K = 7 then 1 else if K = 9 ∨ K = 12 ∨ K = 17 then 8 else if K = 13 then 9 else if K = 10 ∨ K = 19 ∨ K = 20 then 2
  else if K = 15 ∨ K = 21 then 3 else if K = 11 ∨ K = 18 then 4 else if K = 16 then 5 else if K = 23 then 16 else if K = 24 then 17 else if K = 25 then 32 else 0
theorem flagsOf_3 (n m : Int) (K : Int) (h : K = 3 → n = m) : flagsOf K n = flagsOf K m := by
  unfold flagsOf
  by_cases e : K = 3
  · rw [h e]
  · simp only [if_neg e]
theorem kinds (K : Int) (h : 0 ≤ K) (h' : K < 26) : K = 0 ∨ K = 1 ∨ K = 2 ∨ K = 3 ∨ K = 4 ∨ K = 5 ∨ K = 6 ∨ K = 7 ∨ K = 8 ∨ K = 9 ∨ K = 10 ∨ K = 11 ∨ K = 12 ∨ K = 13 ∨ K = 14 ∨ K = 15 ∨ K = 16 ∨ K = 17 ∨ K = 18 ∨ K = 19 ∨ K = 20 ∨ K = 21 ∨ K = 22 ∨ K = 23 ∨ K = 24 ∨ K = 25 := by omega
theorem not_kinds (K : Int) (h : ¬ (0 ≤ K ∧ K < 26)) : K ≠ 3 ∧ K ≠ 5 ∧ K ≠ 7 ∧ K ≠ 9 ∧ K ≠ 10 ∧ K ≠ 11 ∧ K ≠ 12 ∧ K ≠ 13 ∧ K ≠ 15 ∧ K ≠ 16 ∧ K ≠ 17 ∧ K ≠ 18 ∧ K ≠ 19 ∧ K ≠ 20 ∧ K ≠ 21 ∧ K ≠ 23 ∧ K ≠ 24 ∧ K ≠ 25 := by
  refine ⟨?_, ?_, ?_, ?_, ?_, ?_, ?_, ?_, ?_, ?_, ?_, ?_, ?_, ?_, ?_, ?_, ?_, ?_⟩ <;> omega
theorem w1 : wrap64 1 = 1 := by unfold wrap64; omega
theorem w2 : wrap64 2 = 2 := by unfold wrap64; omega
theorem w3 : wrap64 3 = 3 := by unfold wrap64; omega
theorem w4 : wrap64 4 = 4 := by unfold wrap64; omega
theorem w5 : wrap64 5 = 5 := by unfold wrap64; omega
theorem w8 : wrap64 8 = 8 := by unfold wrap64; omega
theorem w9 : wrap64 9 = 9 := by unfold wrap64; omega
theorem w16 : wrap64 16 = 16 := by unfold wrap64; omega
theorem w17 : wrap64 17 = 17 := by unfold wrap64; omega
theorem w32 : wrap64 32 = 32 := by unfold wrap64; omega
set_option maxHeartbeats 4000000 in
theorem flags_is (K a b c n : Int) (s : ByteArray) (l : List Int) (st : Bool) : kind_Flags.f 8 K a b c n s l st = some (flagsOf K n) := by
  by_cases hK : 0 ≤ K ∧ K < 26
  · rcases kinds K hK.1 hK.2 with h | h | h | h | h | h | h | h | h | h | h | h | h | h | h | h | h | h | h | h | h | h | h | h | h | h <;> subst h <;>
      simp [kind_Flags.f, kind_Flags.j0, kind_Flags.j1, kind_Flags.j2, kind_Flags.j3, kind_Flags.j4, flagsOf]
    by_cases h3 : n = 3
    · simp [h3]
    · by_cases h4 : n = 4 <;> simp [h3, h4]
  · obtain ⟨h3, h5, h7, h9, h10, h11, h12, h13, h15, h16, h17, h18, h19, h20, h21, h23, h24, h25⟩ := not_kinds K hK
    simp [kind_Flags.f, kind_Flags.j0, kind_Flags.j1, kind_Flags.j2, kind_Flags.j3, kind_Flags.j4, flagsOf, h3, h5, h7, h9, h10, h11, h12, h13, h15, h16, h17, h18, h19, h20, h21, h23, h24, h25]
set_option maxHeartbeats 4000000 in
theorem ref_flags_is (K a b c n : Int) (s : ByteArray) (l : List Int) (st : Bool) : hallmarkref04_Flags.f 8 K a b c n s l st = some (flagsOf K n) := by
  by_cases hK : 0 ≤ K ∧ K < 26
  · rcases kinds K hK.1 hK.2 with h | h | h | h | h | h | h | h | h | h | h | h | h | h | h | h | h | h | h | h | h | h | h | h | h | h <;> subst h <;>
      simp [hallmarkref04_Flags.f, hallmarkref04_Flags.j0, hallmarkref04_Flags.j1, hallmarkref04_Flags.j2, hallmarkref04_Flags.j3, hallmarkref04_Flags.j4, hallmarkref04_Flags.j5, flagsOf, w1, w2, w3, w4, w5, w8, w9, w16, w17, w32]
    by_cases h3 : n = 3
    · simp [h3]
    · by_cases h4 : n = 4 <;> simp [h3, h4]
  · obtain ⟨h3, h5, h7, h9, h10, h11, h12, h13, h15, h16, h17, h18, h19, h20, h21, h23, h24, h25⟩ := not_kinds K hK
    simp [hallmarkref04_Flags.f, hallmarkref04_Flags.j0, hallmarkref04_Flags.j1, hallmarkref04_Flags.j2, hallmarkref04_Flags.j3, hallmarkref04_Flags.j4, hallmarkref04_Flags.j5, flagsOf, h3, h5, h7, h9, h10, h11, h12, h13, h15, h16, h17, h18, h19, h20, h21, h23, h24, h25]
theorem KindFlags : hallmarklaw04_KindFlags.Pure := by
  intro K a b c n s l st _ _ _ _ _ _ hl _
  refine ⟨8, ?_⟩
  have ho := own_is K a b c n s l st hl.1
  have hp : kind_Plain.f K a b c n s l st = some (K, (if hasF K 65 then a else 0), (if hasF K 66 then b else 0), (if hasF K 67 then c else 0), (if hasF K 78 then n else 0), (if hasF K 83 then s else ByteArray.empty), (if hasF K 76 then l else []), (if hasF K 75 then st else false)) := by
    unfold kind_Plain.f kind_plain.f
    rw [if_pos (by omega)]
    rfl
  have he : flagsOf K n = flagsOf K (if hasF K 78 then n else 0) := flagsOf_3 _ _ K (fun e => by subst e; rw [hasN3]; rfl)
  unfold hallmarklaw04_KindFlags.f
  simp only [ho, hp, flags_is, ref_flags_is, Option.bind_some, ← he, if_pos, hallmarklaw04_lives.f]
end Go.Proofs.YtbjdiaefchcbjaaDoor.Pure
