-- written by wip/print2.py
import Derived.Test.YtbjdiaefchcbjaaDoorPKindUsesx0
import Derived.Test.YtbjdiaefchcbjaaDoorPKindUsesx3
import Derived.Test.YtbjdiaefchcbjaaDoorPKindUsesx6
namespace Go.Proofs.YtbjdiaefchcbjaaDoor.PKindUses
open Go.RowKit Go.Proofs.YtbjdiaefchcbjaaDoorW.PrintWords Go.Proofs.YtbjdiaefchcbjaaDoorW.PrintLast Go.Proofs.YtbjdiaefchcbjaaDoorW.PrintMore
attribute [local go_sem] max2_int min2_int max_two min_two max_three min_three max_four min_four   -- for this text's walks alone
set_option linter.unusedVariables false
set_option linter.unusedSimpArgs false

/-! ### hallmarkref04_Plain: function 18 -/
theorem fields_8_kinds (K : Int) (h : 0 ≤ K) (h' : K < 26) : K = 0 ∨ K = 1 ∨ K = 2 ∨ K = 3 ∨ K = 4 ∨ K = 5 ∨ K = 6 ∨ K = 7 ∨ K = 8 ∨ K = 9 ∨ K = 10 ∨ K = 11 ∨ K = 12 ∨ K = 13 ∨ K = 14 ∨ K = 15 ∨ K = 16 ∨ K = 17 ∨ K = 18 ∨ K = 19 ∨ K = 20 ∨ K = 21 ∨ K = 22 ∨ K = 23 ∨ K = 24 ∨ K = 25 := by omega
theorem fields_8_not (K : Int) (h : ¬ (0 ≤ K ∧ K < 26)) : K ≠ 0 ∧ K ≠ 1 ∧ K ≠ 2 ∧ K ≠ 3 ∧ K ≠ 4 ∧ K ≠ 5 ∧ K ≠ 6 ∧ K ≠ 7 ∧ K ≠ 8 ∧ K ≠ 9 ∧ K ≠ 10 ∧ K ≠ 11 ∧ K ≠ 12 ∧ K ≠ 13 ∧ K ≠ 14 ∧ K ≠ 15 ∧ K ≠ 16 ∧ K ≠ 17 ∧ K ≠ 18 ∧ K ≠ 19 ∧ K ≠ 20 ∧ K ≠ 21 ∧ K ≠ 22 ∧ K ≠ 23 ∧ K ≠ 24 ∧ K ≠ 25 := by
  refine ⟨?_, ?_, ?_, ?_, ?_, ?_, ?_, ?_, ?_, ?_, ?_, ?_, ?_, ?_, ?_, ?_, ?_, ?_, ?_, ?_, ?_, ?_, ?_, ?_, ?_, ?_⟩ <;> omega
set_option maxRecDepth 100000 in
set_option maxHeartbeats 4000000 in
theorem fields_8 (K : Int) : hallmarkref04_Fields.f 8 K = some (fieldsL K) := by
  by_cases hK : 0 ≤ K ∧ K < 26
  · rcases fields_8_kinds K hK.1 hK.2 with h | h | h | h | h | h | h | h | h | h | h | h | h | h | h | h | h | h | h | h | h | h | h | h | h | h <;> subst h <;>
      simp [hallmarkref04_Fields.f, hallmarkref04_Fields.j0, hallmarkref04_Fields.j1, hallmarkref04_Fields.j2, hallmarkref04_Fields.j3, hallmarkref04_Fields.j4, fieldsL, Door.kind_fields_tab]
  · have e : fieldsL K = ByteArray.empty := by unfold fieldsL; rw [if_neg hK]
    rw [e]
    obtain ⟨h0, h1, h2, h3, h4, h5, h6, h7, h8, h9, h10, h11, h12, h13, h14, h15, h16, h17, h18, h19, h20, h21, h22, h23, h24, h25⟩ := fields_8_not K hK
    simp [hallmarkref04_Fields.f, hallmarkref04_Fields.j0, hallmarkref04_Fields.j1, hallmarkref04_Fields.j2, hallmarkref04_Fields.j3, hallmarkref04_Fields.j4, h0, h1, h2, h3, h4, h5, h6, h7, h8, h9, h10, h11, h12, h13, h14, h15, h16, h17, h18, h19, h20, h21, h22, h23, h24, h25]
    rfl
set_option maxRecDepth 100000 in
theorem has_in : ∀ n : Fin 26, ∀ c : Fin 7, hallmarkref04_Has.f 12 (n.val : Int) ([78, 83, 65, 66, 67, 76, 75].getD c.val 0) = some (hasF (n.val : Int) ([78, 83, 65, 66, 67, 76, 75].getD c.val 0)) := by decide +kernel
theorem has_12 (K : Int) (c : Fin 7) : hallmarkref04_Has.f 12 K ([78, 83, 65, 66, 67, 76, 75].getD c.val 0) = some (hasF K ([78, 83, 65, 66, 67, 76, 75].getD c.val 0)) := by
  by_cases hK : 0 ≤ K ∧ K < 26
  · have h := has_in ⟨K.toNat, by omega⟩ c
    rw [show ((K.toNat : Nat) : Int) = K by omega] at h
    exact h
  · have e : fieldsL K = ByteArray.empty := by unfold fieldsL; rw [if_neg hK]
    have hf : hallmarkref04_Fields.f 12 K = some ByteArray.empty := by
      have h8 := fields_8 K
      have m := hallmarkref04_Fields.mono K
      rw [← e]
      exact m 11 _ (m 10 _ (m 9 _ (m 8 _ h8)))
    unfold hallmarkref04_Has.f
    rw [hf]
    have h2 : hasF K ([78, 83, 65, 66, 67, 76, 75].getD c.val 0) = false := by unfold hasF; rw [e]; rfl
    rw [h2]
    rfl
/-- The contract of Has at one of the fields' letters. -/
theorem has_calls (K : Int) (c : Fin 7) (b : Bool) (hb : hasF K ([78, 83, 65, 66, 67, 76, 75].getD c.val 0) = b) (w : World) :
    Calls Tryd.prog 29 #[.int .i64 K, .int .u8 ([78, 83, 65, 66, 67, 76, 75].getD c.val 0)] w fun e w' => e = .returned (.bool b) ∧ Drawn0 w w' :=
  hallmarkref04_Has.calls 12 K _ b w (by rw [has_12, hb])
set_option maxRecDepth 100000 in
theorem pats (K : Int) : (hasF K 78, hasF K 83, hasF K 65, hasF K 66, hasF K 67, hasF K 76, hasF K 75) ∈ [(true, false, false, false, false, false, false), (false, true, false, false, false, false, false), (true, false, true, true, false, false, false), (false, false, true, false, false, false, false), (false, false, true, true, false, false, false), (true, false, false, false, false, true, true), (true, false, true, false, false, false, false), (true, false, false, false, false, false, true), (false, false, true, true, true, false, false), (false, false, false, false, false, false, true), (true, false, false, false, false, true, false), (true, false, true, false, false, true, false), (false, false, false, false, false, false, false)] := by
  by_cases hK : 0 ≤ K ∧ K < 26
  · have h : ∀ n : Fin 26, (hasF (n.val : Int) 78, hasF (n.val : Int) 83, hasF (n.val : Int) 65, hasF (n.val : Int) 66, hasF (n.val : Int) 67, hasF (n.val : Int) 76, hasF (n.val : Int) 75) ∈ [(true, false, false, false, false, false, false), (false, true, false, false, false, false, false), (true, false, true, true, false, false, false), (false, false, true, false, false, false, false), (false, false, true, true, false, false, false), (true, false, false, false, false, true, true), (true, false, true, false, false, false, false), (true, false, false, false, false, false, true), (false, false, true, true, true, false, false), (false, false, false, false, false, false, true), (true, false, false, false, false, true, false), (true, false, true, false, false, true, false), (false, false, false, false, false, false, false)] := by decide +kernel
    have h := h ⟨K.toNat, by omega⟩
    rw [show ((K.toNat : Nat) : Int) = K by omega] at h
    exact h
  · have e : fieldsL K = ByteArray.empty := by unfold fieldsL; rw [if_neg hK]
    have h2 : ∀ c, hasF K c = false := fun c => by unfold hasF; rw [e]; rfl
    simp [h2]
/-- How things lie in Plain. -/
structure PlR (w : World) (K a b c n : Int) (s : ByteArray) (A : Option Addr) (cp : Nat) (l : List Int) (st : Bool) (vA vB vC vN : Int) (vS : ByteArray) (vL : Value) (lL : List Int) (vK : Bool) (W : World) : Prop where
  bel : Below w.heap.size w W
  o : W.heap[w.heap.size]? = some (.cells #[.int .i64 K, .int .i64 a, .int .i64 b, .int .i64 c, .int .i64 n, .string s, .slice A l.length cp, .bool st] 33 (0, 0))
  res : W.heap[w.heap.size + 1]? = some (.cells #[.int .i64 0, .int .i64 0, .int .i64 0, .int .i64 0, .int .i64 0, .string (⟨#[]⟩ : ByteArray), .slice none 0 0, .bool false] 33 (0, 0))
  out : W.heap[w.heap.size + 2]? = some (.cells #[.int .i64 K, .int .i64 vA, .int .i64 vB, .int .i64 vC, .int .i64 vN, .string vS, vL, .bool vK] 33 (0, 0))
  r : Kd.R (Kd.int .i64) 3 W (w.heap.size + 3) (fun _ => True) vL lL
section
variable {w : World} {K a b c n : Int} {s : ByteArray} {A : Option Addr} {cp : Nat} {l : List Int} {st : Bool} {vA vB vC vN : Int} {vS : ByteArray} {vL : Value} {lL : List Int} {vK : Bool} {W W' : World}
theorem PlR.lt (h : PlR w K a b c n s A cp l st vA vB vC vN vS vL lL vK W) : w.heap.size + 2 < W.heap.size := (Array.getElem?_eq_some_iff.1 h.out).1
theorem PlR.below (h : PlR w K a b c n s A cp l st vA vB vC vN vS vL lL vK W) (hb : Below W.heap.size W W') : PlR w K a b c n s A cp l st vA vB vC vN vS vL lL vK W' := by
  have hl := h.lt
  exact ⟨below_step h.bel hb, (hb.block _ (by omega)).trans h.o, (hb.block _ (by omega)).trans h.res, (hb.block _ hl).trans h.out, Kd.R_below h.r hb⟩
theorem PlR.put (h : PlR w K a b c n s A cp l st vA vB vC vN vS vL lL vK W) (j : Nat) (u : Value) {vA' vB' vC' vN' : Int} {vS' : ByteArray} {vK' : Bool}
    (e : (#[.int .i64 K, .int .i64 vA, .int .i64 vB, .int .i64 vC, .int .i64 vN, .string vS, vL, .bool vK] : Array Value).setIfInBounds j u = #[.int .i64 K, .int .i64 vA', .int .i64 vB', .int .i64 vC', .int .i64 vN', .string vS', vL, .bool vK']) :
    PlR w K a b c n s A cp l st vA' vB' vC' vN' vS' vL lL vK' (W.setCell ⟨w.heap.size + 2, j, none⟩ u) := by
  have hne : ∀ k, k ≠ w.heap.size + 2 → (W.setCell ⟨w.heap.size + 2, j, none⟩ u).heap[k]? = W.heap[k]? := fun k hk => Below.heap_setCell W ⟨w.heap.size + 2, j, none⟩ u k hk
  refine ⟨h.bel.setCell (p := ⟨w.heap.size + 2, j, none⟩) (by show w.heap.size ≤ w.heap.size + 2; omega) _, (hne _ (by omega)).trans h.o, (hne _ (by omega)).trans h.res, ?_, ?_⟩
  · have := blk_set h.out j u
    rw [this, e]
  · exact Kd.R_mono (Kd.R_move (Kd.R_bound h.r) (fun k hk => hne k (by have := hk.2.1; omega))) (fun _ _ => trivial)
theorem PlR.putL (h : PlR w K a b c n s A cp l st vA vB vC vN vS vL lL vK W) {u : Value} {l' : List Int} (hr : Kd.R (Kd.int .i64) 3 W (w.heap.size + 3) (fun _ => True) u l') :
    PlR w K a b c n s A cp l st vA vB vC vN vS u l' vK (W.setCell ⟨w.heap.size + 2, 6, none⟩ u) := by
  have hne : ∀ k, k ≠ w.heap.size + 2 → (W.setCell ⟨w.heap.size + 2, 6, none⟩ u).heap[k]? = W.heap[k]? := fun k hk => Below.heap_setCell W ⟨w.heap.size + 2, 6, none⟩ u k hk
  refine ⟨h.bel.setCell (p := ⟨w.heap.size + 2, 6, none⟩) (by show w.heap.size ≤ w.heap.size + 2; omega) _, (hne _ (by omega)).trans h.o, (hne _ (by omega)).trans h.res, ?_, ?_⟩
  · have := blk_set h.out 6 u
    rw [this]
    rfl
  · exact Kd.R_mono (Kd.R_move (Kd.R_bound hr) (fun k hk => hne k (by have := hk.2.1; omega))) (fun _ _ => trivial)
end
def hallmarkref04_Plain.f (a0_0 a0_1 a0_2 a0_3 a0_4 : Int) (a0_5 : ByteArray) (l0_6 : List Int) (a0_7 : Bool) : Option (Int × Int × Int × Int × Int × ByteArray × List Int × Bool) := kind_plain.f a0_0 a0_1 a0_2 a0_3 a0_4 a0_5 l0_6 a0_7
set_option maxHeartbeats 8000000 in
set_option maxRecDepth 100000 in
theorem hallmarkref04_Plain.calls (a0_0 : Int) (a0_1 : Int) (a0_2 : Int) (a0_3 : Int) (a0_4 : Int) (a0_5 : ByteArray) (A0_6 : Option Addr) (c0_6 : Nat) (l0_6 : List Int) (a0_7 : Bool) (r1 : Int) (r2 : Int) (r3 : Int) (r4 : Int) (r5 : Int) (r6 : ByteArray) (r7 : List Int) (r8 : Bool) (w : World) (hr0_6 : Kd.C (Kd.int .i64) w A0_6 l0_6.length l0_6) (hc0_6 : l0_6.length ≤ c0_6) (h : hallmarkref04_Plain.f a0_0 a0_1 a0_2 a0_3 a0_4 a0_5 l0_6 a0_7 = some (r1, r2, r3, r4, r5, r6, r7, r8)) :
    Calls Tryd.prog 18 #[.agg #[.int .i64 a0_0, .int .i64 a0_1, .int .i64 a0_2, .int .i64 a0_3, .int .i64 a0_4, .string a0_5, .slice A0_6 l0_6.length c0_6, .bool a0_7]] w fun e w' => ∃ v6_ : Value, e = .returned (.agg #[.int .i64 r1, .int .i64 r2, .int .i64 r3, .int .i64 r4, .int .i64 r5, .string r6, v6_, .bool r8]) ∧ Kd.R (Kd.int .i64) 3 w' w.heap.size (fun _ => True) v6_ r7 ∧ Below w.heap.size w w' := by
  unfold hallmarkref04_Plain.f kind_plain.f at h
  split at h
  rotate_left
  · cases h
  rename_i hll
  have hp := pats a0_0
  replace h := Option.some.inj h
  obtain ⟨bN, eN⟩ : ∃ b, hasF a0_0 78 = b := ⟨_, rfl⟩
  obtain ⟨bS, eS⟩ : ∃ b, hasF a0_0 83 = b := ⟨_, rfl⟩
  obtain ⟨bA, eA⟩ : ∃ b, hasF a0_0 65 = b := ⟨_, rfl⟩
  obtain ⟨bB, eB⟩ : ∃ b, hasF a0_0 66 = b := ⟨_, rfl⟩
  obtain ⟨bC, eC⟩ : ∃ b, hasF a0_0 67 = b := ⟨_, rfl⟩
  obtain ⟨bL, eL⟩ : ∃ b, hasF a0_0 76 = b := ⟨_, rfl⟩
  obtain ⟨bK, eK⟩ : ∃ b, hasF a0_0 75 = b := ⟨_, rfl⟩
  rw [eN, eS, eA, eB, eC, eL, eK] at hp h
  have CN : ∀ X : World, Calls Tryd.prog 29 #[.int .i64 a0_0, .int .u8 78] X fun e w' => e = .returned (.bool bN) ∧ Drawn0 X w' := fun X => has_calls a0_0 0 bN eN X
  have CS : ∀ X : World, Calls Tryd.prog 29 #[.int .i64 a0_0, .int .u8 83] X fun e w' => e = .returned (.bool bS) ∧ Drawn0 X w' := fun X => has_calls a0_0 1 bS eS X
  have CA : ∀ X : World, Calls Tryd.prog 29 #[.int .i64 a0_0, .int .u8 65] X fun e w' => e = .returned (.bool bA) ∧ Drawn0 X w' := fun X => has_calls a0_0 2 bA eA X
  have CB : ∀ X : World, Calls Tryd.prog 29 #[.int .i64 a0_0, .int .u8 66] X fun e w' => e = .returned (.bool bB) ∧ Drawn0 X w' := fun X => has_calls a0_0 3 bB eB X
  have CC : ∀ X : World, Calls Tryd.prog 29 #[.int .i64 a0_0, .int .u8 67] X fun e w' => e = .returned (.bool bC) ∧ Drawn0 X w' := fun X => has_calls a0_0 4 bC eC X
  have CL : ∀ X : World, Calls Tryd.prog 29 #[.int .i64 a0_0, .int .u8 76] X fun e w' => e = .returned (.bool bL) ∧ Drawn0 X w' := fun X => has_calls a0_0 5 bL eL X
  have CK : ∀ X : World, Calls Tryd.prog 29 #[.int .i64 a0_0, .int .u8 75] X fun e w' => e = .returned (.bool bK) ∧ Drawn0 X w' := fun X => has_calls a0_0 6 bK eK X
  clear eN eS eA eB eC eL eK
  have HR := Aside0.mk hr0_6
  have HCap := Aside0.mk hc0_6
  have HLL := Aside0.mk hll
  have hp0 : PlR w a0_0 a0_1 a0_2 a0_3 a0_4 a0_5 A0_6 c0_6 l0_6 a0_7 0 0 0 0 (⟨#[]⟩ : ByteArray) (.slice none 0 0) [] false (((w.alloc (.cells #[.int .i64 a0_0, .int .i64 a0_1, .int .i64 a0_2, .int .i64 a0_3, .int .i64 a0_4, .string a0_5, .slice A0_6 l0_6.length c0_6, .bool a0_7] 33)).alloc (.cells #[.int .i64 0, .int .i64 0, .int .i64 0, .int .i64 0, .int .i64 0, .string (⟨#[]⟩ : ByteArray), .slice none 0 0, .bool false] 33)).alloc (.cells #[.int .i64 a0_0, .int .i64 0, .int .i64 0, .int .i64 0, .int .i64 0, .string (⟨#[]⟩ : ByteArray), .slice none 0 0, .bool false] 33)) := by
    obtain ⟨h1, h2, h3⟩ := three_allocs w (.cells #[.int .i64 a0_0, .int .i64 a0_1, .int .i64 a0_2, .int .i64 a0_3, .int .i64 a0_4, .string a0_5, .slice A0_6 l0_6.length c0_6, .bool a0_7] 33) (.cells #[.int .i64 0, .int .i64 0, .int .i64 0, .int .i64 0, .int .i64 0, .string (⟨#[]⟩ : ByteArray), .slice none 0 0, .bool false] 33) (.cells #[.int .i64 a0_0, .int .i64 0, .int .i64 0, .int .i64 0, .int .i64 0, .string (⟨#[]⟩ : ByteArray), .slice none 0 0, .bool false] 33)
    exact ⟨below_alloc (below_alloc (below_alloc (Below.refl _ _) _) _) _, h1, h2, h3, Kd.R_nil _ _ _ _ _⟩
  have HP := Aside0.mk hp0
  have HcN := Aside0.mk CN
  have HcS := Aside0.mk CS
  have HcA := Aside0.mk CA
  have HcB := Aside0.mk CB
  have HcC := Aside0.mk CC
  have HcL := Aside0.mk CL
  have HcK := Aside0.mk CK
  clear hr0_6 hc0_6 hll hp0 CN CS CA CB CC CL CK
  simp only [List.mem_cons, List.not_mem_nil, Prod.mk.injEq, or_false] at hp
  rcases hp with ⟨rfl, rfl, rfl, rfl, rfl, rfl, rfl⟩ | ⟨rfl, rfl, rfl, rfl, rfl, rfl, rfl⟩ | ⟨rfl, rfl, rfl, rfl, rfl, rfl, rfl⟩ | ⟨rfl, rfl, rfl, rfl, rfl, rfl, rfl⟩ | ⟨rfl, rfl, rfl, rfl, rfl, rfl, rfl⟩ | ⟨rfl, rfl, rfl, rfl, rfl, rfl, rfl⟩ | ⟨rfl, rfl, rfl, rfl, rfl, rfl, rfl⟩ | ⟨rfl, rfl, rfl, rfl, rfl, rfl, rfl⟩ | ⟨rfl, rfl, rfl, rfl, rfl, rfl, rfl⟩ | ⟨rfl, rfl, rfl, rfl, rfl, rfl, rfl⟩ | ⟨rfl, rfl, rfl, rfl, rfl, rfl, rfl⟩ | ⟨rfl, rfl, rfl, rfl, rfl, rfl, rfl⟩ | ⟨rfl, rfl, rfl, rfl, rfl, rfl, rfl⟩
  · simp only [Bool.false_eq_true, if_true, if_false, Prod.mk.injEq] at h
    obtain ⟨rfl, rfl, rfl, rfl, rfl, rfl, rfl, rfl⟩ := h
    have q00 := blk_cell HP.out.o 0
    have hsz2 : w.heap.size + 1 + 1 = w.heap.size + 2 := rfl
    go_enter Tryd.func18, Tryd.ntmps18
    go_wp2_with (first
      | (go_at_call 29; with_reducible refine (HcN.out _).mono ?_; rintro e XN ⟨rfl, hd⟩; have PN := Aside0.mk (PlR.below (HP.out) hd.below); clear hd; have qsN := blk_cell PN.out.o 4; have qcN := blk_cell PN.out.out 4; have qfN := blk_frozen PN.out.out 4; have PN' := Aside0.mk (PlR.put (vA' := 0) (vB' := 0) (vC' := 0) (vN' := a0_4) (vS' := (⟨#[]⟩ : ByteArray)) (vK' := false) PN.out 4 (.int .i64 a0_4) rfl); have qkN := blk_cell PN'.out.o 0)
      | (go_at_call 29; with_reducible refine (HcS.out _).mono ?_; rintro e XS ⟨rfl, hd⟩; have PS := Aside0.mk (PlR.below (PN'.out) hd.below); clear hd; have qkS := blk_cell PS.out.o 0)
      | (go_at_call 29; with_reducible refine (HcA.out _).mono ?_; rintro e XA ⟨rfl, hd⟩; have PA := Aside0.mk (PlR.below (PS.out) hd.below); clear hd; have qkA := blk_cell PA.out.o 0)
      | (go_at_call 29; with_reducible refine (HcB.out _).mono ?_; rintro e XB ⟨rfl, hd⟩; have PB := Aside0.mk (PlR.below (PA.out) hd.below); clear hd; have qkB := blk_cell PB.out.o 0)
      | (go_at_call 29; with_reducible refine (HcC.out _).mono ?_; rintro e XC ⟨rfl, hd⟩; have PC := Aside0.mk (PlR.below (PB.out) hd.below); clear hd; have qkC := blk_cell PC.out.o 0)
      | (go_at_call 29; with_reducible refine (HcL.out _).mono ?_; rintro e XL ⟨rfl, hd⟩; have PL := Aside0.mk (PlR.below (PC.out) hd.below); clear hd; have qkL := blk_cell PL.out.o 0)
      | (go_at_call 29; with_reducible refine (HcK.out _).mono ?_; rintro e XK ⟨rfl, hd⟩; have PK := Aside0.mk (PlR.below (PL.out) hd.below); clear hd; have qkK := blk_cell PK.out.o 0; have hz := blk_frozen PK.out.res; have hpp := blk_cell PK.out.res; have hq := blk_cell PK.out.out))
    have hne : ∀ (V : World) (i j : Nat) (u : Value), j ≠ w.heap.size + 1 → (V.setCell ⟨w.heap.size + 1, i, none⟩ u).heap[j]? = V.heap[j]? := fun V i j u hj => Below.heap_setCell V ⟨w.heap.size + 1, i, none⟩ u j hj
    have hB : ∀ (V : World) (i : Nat) (u : Value), Below w.heap.size w V → Below w.heap.size w (V.setCell ⟨w.heap.size + 1, i, none⟩ u) := fun V i u h => h.setCell (p := ⟨w.heap.size + 1, i, none⟩) (by show w.heap.size ≤ w.heap.size + 1; omega) _
    refine bodyPost_ret (results_cell_row rfl _ _ (w.heap.size + 1) 33 #[.int .i64 a0_0, .int .i64 0, .int .i64 0, .int .i64 0, .int .i64 a0_4, .string (⟨#[]⟩ : ByteArray), .slice none 0 0, .bool false] (0, 0) _ rfl ?_ Tryd.underlying33 rfl (by kernel_rfl)) rfl ⟨(.slice none 0 0), rfl, ?_, ?_⟩
    · have h1 := blk_set (blk_set (blk_set (blk_set (blk_set (blk_set (blk_set (blk_set (PK.out.res) 0 (.int .i64 a0_0)) 1 (.int .i64 0)) 2 (.int .i64 0)) 3 (.int .i64 0)) 4 (.int .i64 a0_4)) 5 (.string (⟨#[]⟩ : ByteArray))) 6 (.slice none 0 0)) 7 (.bool false)
      rw [h1]
      first | done | rfl | simp
    · refine Kd.R_mono (Kd.R_lower (Kd.R_move (Kd.R_bound PK.out.r) (fun k hk => ?_)) (by omega)) (fun _ _ => trivial)
      have hk1 : k ≠ w.heap.size + 1 := by
        have := hk.2.1
        omega
      simp only [hne _ _ _ _ hk1]
    · exact hB _ _ _ (hB _ _ _ (hB _ _ _ (hB _ _ _ (hB _ _ _ (hB _ _ _ (hB _ _ _ (hB _ _ _ PK.out.bel)))))))
  · simp only [Bool.false_eq_true, if_true, if_false, Prod.mk.injEq] at h
    obtain ⟨rfl, rfl, rfl, rfl, rfl, rfl, rfl, rfl⟩ := h
    have q00 := blk_cell HP.out.o 0
    have hsz2 : w.heap.size + 1 + 1 = w.heap.size + 2 := rfl
    go_enter Tryd.func18, Tryd.ntmps18
    go_wp2_with (first
      | (go_at_call 29; with_reducible refine (HcN.out _).mono ?_; rintro e XN ⟨rfl, hd⟩; have PN := Aside0.mk (PlR.below (HP.out) hd.below); clear hd; have qkN := blk_cell PN.out.o 0)
      | (go_at_call 29; with_reducible refine (HcS.out _).mono ?_; rintro e XS ⟨rfl, hd⟩; have PS := Aside0.mk (PlR.below (PN.out) hd.below); clear hd; have qsS := blk_cell PS.out.o 5; have qcS := blk_cell PS.out.out 5; have qfS := blk_frozen PS.out.out 5; have PS' := Aside0.mk (PlR.put (vA' := 0) (vB' := 0) (vC' := 0) (vN' := 0) (vS' := a0_5) (vK' := false) PS.out 5 (.string a0_5) rfl); have qkS := blk_cell PS'.out.o 0)
      | (go_at_call 29; with_reducible refine (HcA.out _).mono ?_; rintro e XA ⟨rfl, hd⟩; have PA := Aside0.mk (PlR.below (PS'.out) hd.below); clear hd; have qkA := blk_cell PA.out.o 0)
      | (go_at_call 29; with_reducible refine (HcB.out _).mono ?_; rintro e XB ⟨rfl, hd⟩; have PB := Aside0.mk (PlR.below (PA.out) hd.below); clear hd; have qkB := blk_cell PB.out.o 0)
      | (go_at_call 29; with_reducible refine (HcC.out _).mono ?_; rintro e XC ⟨rfl, hd⟩; have PC := Aside0.mk (PlR.below (PB.out) hd.below); clear hd; have qkC := blk_cell PC.out.o 0)
      | (go_at_call 29; with_reducible refine (HcL.out _).mono ?_; rintro e XL ⟨rfl, hd⟩; have PL := Aside0.mk (PlR.below (PC.out) hd.below); clear hd; have qkL := blk_cell PL.out.o 0)
      | (go_at_call 29; with_reducible refine (HcK.out _).mono ?_; rintro e XK ⟨rfl, hd⟩; have PK := Aside0.mk (PlR.below (PL.out) hd.below); clear hd; have qkK := blk_cell PK.out.o 0; have hz := blk_frozen PK.out.res; have hpp := blk_cell PK.out.res; have hq := blk_cell PK.out.out))
    have hne : ∀ (V : World) (i j : Nat) (u : Value), j ≠ w.heap.size + 1 → (V.setCell ⟨w.heap.size + 1, i, none⟩ u).heap[j]? = V.heap[j]? := fun V i j u hj => Below.heap_setCell V ⟨w.heap.size + 1, i, none⟩ u j hj
    have hB : ∀ (V : World) (i : Nat) (u : Value), Below w.heap.size w V → Below w.heap.size w (V.setCell ⟨w.heap.size + 1, i, none⟩ u) := fun V i u h => h.setCell (p := ⟨w.heap.size + 1, i, none⟩) (by show w.heap.size ≤ w.heap.size + 1; omega) _
    refine bodyPost_ret (results_cell_row rfl _ _ (w.heap.size + 1) 33 #[.int .i64 a0_0, .int .i64 0, .int .i64 0, .int .i64 0, .int .i64 0, .string a0_5, .slice none 0 0, .bool false] (0, 0) _ rfl ?_ Tryd.underlying33 rfl (by kernel_rfl)) rfl ⟨(.slice none 0 0), rfl, ?_, ?_⟩
    · have h1 := blk_set (blk_set (blk_set (blk_set (blk_set (blk_set (blk_set (blk_set (PK.out.res) 0 (.int .i64 a0_0)) 1 (.int .i64 0)) 2 (.int .i64 0)) 3 (.int .i64 0)) 4 (.int .i64 0)) 5 (.string a0_5)) 6 (.slice none 0 0)) 7 (.bool false)
      rw [h1]
      first | done | rfl | simp
    · refine Kd.R_mono (Kd.R_lower (Kd.R_move (Kd.R_bound PK.out.r) (fun k hk => ?_)) (by omega)) (fun _ _ => trivial)
      have hk1 : k ≠ w.heap.size + 1 := by
        have := hk.2.1
        omega
      simp only [hne _ _ _ _ hk1]
    · exact hB _ _ _ (hB _ _ _ (hB _ _ _ (hB _ _ _ (hB _ _ _ (hB _ _ _ (hB _ _ _ (hB _ _ _ PK.out.bel)))))))
  · simp only [Bool.false_eq_true, if_true, if_false, Prod.mk.injEq] at h
    obtain ⟨rfl, rfl, rfl, rfl, rfl, rfl, rfl, rfl⟩ := h
    have q00 := blk_cell HP.out.o 0
    have hsz2 : w.heap.size + 1 + 1 = w.heap.size + 2 := rfl
    go_enter Tryd.func18, Tryd.ntmps18
    go_wp2_with (first
      | (go_at_call 29; with_reducible refine (HcN.out _).mono ?_; rintro e XN ⟨rfl, hd⟩; have PN := Aside0.mk (PlR.below (HP.out) hd.below); clear hd; have qsN := blk_cell PN.out.o 4; have qcN := blk_cell PN.out.out 4; have qfN := blk_frozen PN.out.out 4; have PN' := Aside0.mk (PlR.put (vA' := 0) (vB' := 0) (vC' := 0) (vN' := a0_4) (vS' := (⟨#[]⟩ : ByteArray)) (vK' := false) PN.out 4 (.int .i64 a0_4) rfl); have qkN := blk_cell PN'.out.o 0)
      | (go_at_call 29; with_reducible refine (HcS.out _).mono ?_; rintro e XS ⟨rfl, hd⟩; have PS := Aside0.mk (PlR.below (PN'.out) hd.below); clear hd; have qkS := blk_cell PS.out.o 0)
      | (go_at_call 29; with_reducible refine (HcA.out _).mono ?_; rintro e XA ⟨rfl, hd⟩; have PA := Aside0.mk (PlR.below (PS.out) hd.below); clear hd; have qsA := blk_cell PA.out.o 1; have qcA := blk_cell PA.out.out 1; have qfA := blk_frozen PA.out.out 1; have PA' := Aside0.mk (PlR.put (vA' := a0_1) (vB' := 0) (vC' := 0) (vN' := a0_4) (vS' := (⟨#[]⟩ : ByteArray)) (vK' := false) PA.out 1 (.int .i64 a0_1) rfl); have qkA := blk_cell PA'.out.o 0)
      | (go_at_call 29; with_reducible refine (HcB.out _).mono ?_; rintro e XB ⟨rfl, hd⟩; have PB := Aside0.mk (PlR.below (PA'.out) hd.below); clear hd; have qsB := blk_cell PB.out.o 2; have qcB := blk_cell PB.out.out 2; have qfB := blk_frozen PB.out.out 2; have PB' := Aside0.mk (PlR.put (vA' := a0_1) (vB' := a0_2) (vC' := 0) (vN' := a0_4) (vS' := (⟨#[]⟩ : ByteArray)) (vK' := false) PB.out 2 (.int .i64 a0_2) rfl); have qkB := blk_cell PB'.out.o 0)
      | (go_at_call 29; with_reducible refine (HcC.out _).mono ?_; rintro e XC ⟨rfl, hd⟩; have PC := Aside0.mk (PlR.below (PB'.out) hd.below); clear hd; have qkC := blk_cell PC.out.o 0)
      | (go_at_call 29; with_reducible refine (HcL.out _).mono ?_; rintro e XL ⟨rfl, hd⟩; have PL := Aside0.mk (PlR.below (PC.out) hd.below); clear hd; have qkL := blk_cell PL.out.o 0)
      | (go_at_call 29; with_reducible refine (HcK.out _).mono ?_; rintro e XK ⟨rfl, hd⟩; have PK := Aside0.mk (PlR.below (PL.out) hd.below); clear hd; have qkK := blk_cell PK.out.o 0; have hz := blk_frozen PK.out.res; have hpp := blk_cell PK.out.res; have hq := blk_cell PK.out.out))
    have hne : ∀ (V : World) (i j : Nat) (u : Value), j ≠ w.heap.size + 1 → (V.setCell ⟨w.heap.size + 1, i, none⟩ u).heap[j]? = V.heap[j]? := fun V i j u hj => Below.heap_setCell V ⟨w.heap.size + 1, i, none⟩ u j hj
    have hB : ∀ (V : World) (i : Nat) (u : Value), Below w.heap.size w V → Below w.heap.size w (V.setCell ⟨w.heap.size + 1, i, none⟩ u) := fun V i u h => h.setCell (p := ⟨w.heap.size + 1, i, none⟩) (by show w.heap.size ≤ w.heap.size + 1; omega) _
    refine bodyPost_ret (results_cell_row rfl _ _ (w.heap.size + 1) 33 #[.int .i64 a0_0, .int .i64 a0_1, .int .i64 a0_2, .int .i64 0, .int .i64 a0_4, .string (⟨#[]⟩ : ByteArray), .slice none 0 0, .bool false] (0, 0) _ rfl ?_ Tryd.underlying33 rfl (by kernel_rfl)) rfl ⟨(.slice none 0 0), rfl, ?_, ?_⟩
    · have h1 := blk_set (blk_set (blk_set (blk_set (blk_set (blk_set (blk_set (blk_set (PK.out.res) 0 (.int .i64 a0_0)) 1 (.int .i64 a0_1)) 2 (.int .i64 a0_2)) 3 (.int .i64 0)) 4 (.int .i64 a0_4)) 5 (.string (⟨#[]⟩ : ByteArray))) 6 (.slice none 0 0)) 7 (.bool false)
      rw [h1]
      first | done | rfl | simp
    · refine Kd.R_mono (Kd.R_lower (Kd.R_move (Kd.R_bound PK.out.r) (fun k hk => ?_)) (by omega)) (fun _ _ => trivial)
      have hk1 : k ≠ w.heap.size + 1 := by
        have := hk.2.1
        omega
      simp only [hne _ _ _ _ hk1]
    · exact hB _ _ _ (hB _ _ _ (hB _ _ _ (hB _ _ _ (hB _ _ _ (hB _ _ _ (hB _ _ _ (hB _ _ _ PK.out.bel)))))))
  · simp only [Bool.false_eq_true, if_true, if_false, Prod.mk.injEq] at h
    obtain ⟨rfl, rfl, rfl, rfl, rfl, rfl, rfl, rfl⟩ := h
    have q00 := blk_cell HP.out.o 0
    have hsz2 : w.heap.size + 1 + 1 = w.heap.size + 2 := rfl
    go_enter Tryd.func18, Tryd.ntmps18
    go_wp2_with (first
      | (go_at_call 29; with_reducible refine (HcN.out _).mono ?_; rintro e XN ⟨rfl, hd⟩; have PN := Aside0.mk (PlR.below (HP.out) hd.below); clear hd; have qkN := blk_cell PN.out.o 0)
      | (go_at_call 29; with_reducible refine (HcS.out _).mono ?_; rintro e XS ⟨rfl, hd⟩; have PS := Aside0.mk (PlR.below (PN.out) hd.below); clear hd; have qkS := blk_cell PS.out.o 0)
      | (go_at_call 29; with_reducible refine (HcA.out _).mono ?_; rintro e XA ⟨rfl, hd⟩; have PA := Aside0.mk (PlR.below (PS.out) hd.below); clear hd; have qsA := blk_cell PA.out.o 1; have qcA := blk_cell PA.out.out 1; have qfA := blk_frozen PA.out.out 1; have PA' := Aside0.mk (PlR.put (vA' := a0_1) (vB' := 0) (vC' := 0) (vN' := 0) (vS' := (⟨#[]⟩ : ByteArray)) (vK' := false) PA.out 1 (.int .i64 a0_1) rfl); have qkA := blk_cell PA'.out.o 0)
      | (go_at_call 29; with_reducible refine (HcB.out _).mono ?_; rintro e XB ⟨rfl, hd⟩; have PB := Aside0.mk (PlR.below (PA'.out) hd.below); clear hd; have qkB := blk_cell PB.out.o 0)
      | (go_at_call 29; with_reducible refine (HcC.out _).mono ?_; rintro e XC ⟨rfl, hd⟩; have PC := Aside0.mk (PlR.below (PB.out) hd.below); clear hd; have qkC := blk_cell PC.out.o 0)
      | (go_at_call 29; with_reducible refine (HcL.out _).mono ?_; rintro e XL ⟨rfl, hd⟩; have PL := Aside0.mk (PlR.below (PC.out) hd.below); clear hd; have qkL := blk_cell PL.out.o 0)
      | (go_at_call 29; with_reducible refine (HcK.out _).mono ?_; rintro e XK ⟨rfl, hd⟩; have PK := Aside0.mk (PlR.below (PL.out) hd.below); clear hd; have qkK := blk_cell PK.out.o 0; have hz := blk_frozen PK.out.res; have hpp := blk_cell PK.out.res; have hq := blk_cell PK.out.out))
    have hne : ∀ (V : World) (i j : Nat) (u : Value), j ≠ w.heap.size + 1 → (V.setCell ⟨w.heap.size + 1, i, none⟩ u).heap[j]? = V.heap[j]? := fun V i j u hj => Below.heap_setCell V ⟨w.heap.size + 1, i, none⟩ u j hj
    have hB : ∀ (V : World) (i : Nat) (u : Value), Below w.heap.size w V → Below w.heap.size w (V.setCell ⟨w.heap.size + 1, i, none⟩ u) := fun V i u h => h.setCell (p := ⟨w.heap.size + 1, i, none⟩) (by show w.heap.size ≤ w.heap.size + 1; omega) _
    refine bodyPost_ret (results_cell_row rfl _ _ (w.heap.size + 1) 33 #[.int .i64 a0_0, .int .i64 a0_1, .int .i64 0, .int .i64 0, .int .i64 0, .string (⟨#[]⟩ : ByteArray), .slice none 0 0, .bool false] (0, 0) _ rfl ?_ Tryd.underlying33 rfl (by kernel_rfl)) rfl ⟨(.slice none 0 0), rfl, ?_, ?_⟩
    · have h1 := blk_set (blk_set (blk_set (blk_set (blk_set (blk_set (blk_set (blk_set (PK.out.res) 0 (.int .i64 a0_0)) 1 (.int .i64 a0_1)) 2 (.int .i64 0)) 3 (.int .i64 0)) 4 (.int .i64 0)) 5 (.string (⟨#[]⟩ : ByteArray))) 6 (.slice none 0 0)) 7 (.bool false)
      rw [h1]
      first | done | rfl | simp
    · refine Kd.R_mono (Kd.R_lower (Kd.R_move (Kd.R_bound PK.out.r) (fun k hk => ?_)) (by omega)) (fun _ _ => trivial)
      have hk1 : k ≠ w.heap.size + 1 := by
        have := hk.2.1
        omega
      simp only [hne _ _ _ _ hk1]
    · exact hB _ _ _ (hB _ _ _ (hB _ _ _ (hB _ _ _ (hB _ _ _ (hB _ _ _ (hB _ _ _ (hB _ _ _ PK.out.bel)))))))
  · simp only [Bool.false_eq_true, if_true, if_false, Prod.mk.injEq] at h
    obtain ⟨rfl, rfl, rfl, rfl, rfl, rfl, rfl, rfl⟩ := h
    have q00 := blk_cell HP.out.o 0
    have hsz2 : w.heap.size + 1 + 1 = w.heap.size + 2 := rfl
    go_enter Tryd.func18, Tryd.ntmps18
    go_wp2_with (first
      | (go_at_call 29; with_reducible refine (HcN.out _).mono ?_; rintro e XN ⟨rfl, hd⟩; have PN := Aside0.mk (PlR.below (HP.out) hd.below); clear hd; have qkN := blk_cell PN.out.o 0)
      | (go_at_call 29; with_reducible refine (HcS.out _).mono ?_; rintro e XS ⟨rfl, hd⟩; have PS := Aside0.mk (PlR.below (PN.out) hd.below); clear hd; have qkS := blk_cell PS.out.o 0)
      | (go_at_call 29; with_reducible refine (HcA.out _).mono ?_; rintro e XA ⟨rfl, hd⟩; have PA := Aside0.mk (PlR.below (PS.out) hd.below); clear hd; have qsA := blk_cell PA.out.o 1; have qcA := blk_cell PA.out.out 1; have qfA := blk_frozen PA.out.out 1; have PA' := Aside0.mk (PlR.put (vA' := a0_1) (vB' := 0) (vC' := 0) (vN' := 0) (vS' := (⟨#[]⟩ : ByteArray)) (vK' := false) PA.out 1 (.int .i64 a0_1) rfl); have qkA := blk_cell PA'.out.o 0)
      | (go_at_call 29; with_reducible refine (HcB.out _).mono ?_; rintro e XB ⟨rfl, hd⟩; have PB := Aside0.mk (PlR.below (PA'.out) hd.below); clear hd; have qsB := blk_cell PB.out.o 2; have qcB := blk_cell PB.out.out 2; have qfB := blk_frozen PB.out.out 2; have PB' := Aside0.mk (PlR.put (vA' := a0_1) (vB' := a0_2) (vC' := 0) (vN' := 0) (vS' := (⟨#[]⟩ : ByteArray)) (vK' := false) PB.out 2 (.int .i64 a0_2) rfl); have qkB := blk_cell PB'.out.o 0)
      | (go_at_call 29; with_reducible refine (HcC.out _).mono ?_; rintro e XC ⟨rfl, hd⟩; have PC := Aside0.mk (PlR.below (PB'.out) hd.below); clear hd; have qkC := blk_cell PC.out.o 0)
      | (go_at_call 29; with_reducible refine (HcL.out _).mono ?_; rintro e XL ⟨rfl, hd⟩; have PL := Aside0.mk (PlR.below (PC.out) hd.below); clear hd; have qkL := blk_cell PL.out.o 0)
      | (go_at_call 29; with_reducible refine (HcK.out _).mono ?_; rintro e XK ⟨rfl, hd⟩; have PK := Aside0.mk (PlR.below (PL.out) hd.below); clear hd; have qkK := blk_cell PK.out.o 0; have hz := blk_frozen PK.out.res; have hpp := blk_cell PK.out.res; have hq := blk_cell PK.out.out))
    have hne : ∀ (V : World) (i j : Nat) (u : Value), j ≠ w.heap.size + 1 → (V.setCell ⟨w.heap.size + 1, i, none⟩ u).heap[j]? = V.heap[j]? := fun V i j u hj => Below.heap_setCell V ⟨w.heap.size + 1, i, none⟩ u j hj
    have hB : ∀ (V : World) (i : Nat) (u : Value), Below w.heap.size w V → Below w.heap.size w (V.setCell ⟨w.heap.size + 1, i, none⟩ u) := fun V i u h => h.setCell (p := ⟨w.heap.size + 1, i, none⟩) (by show w.heap.size ≤ w.heap.size + 1; omega) _
    refine bodyPost_ret (results_cell_row rfl _ _ (w.heap.size + 1) 33 #[.int .i64 a0_0, .int .i64 a0_1, .int .i64 a0_2, .int .i64 0, .int .i64 0, .string (⟨#[]⟩ : ByteArray), .slice none 0 0, .bool false] (0, 0) _ rfl ?_ Tryd.underlying33 rfl (by kernel_rfl)) rfl ⟨(.slice none 0 0), rfl, ?_, ?_⟩
    · have h1 := blk_set (blk_set (blk_set (blk_set (blk_set (blk_set (blk_set (blk_set (PK.out.res) 0 (.int .i64 a0_0)) 1 (.int .i64 a0_1)) 2 (.int .i64 a0_2)) 3 (.int .i64 0)) 4 (.int .i64 0)) 5 (.string (⟨#[]⟩ : ByteArray))) 6 (.slice none 0 0)) 7 (.bool false)
      rw [h1]
      first | done | rfl | simp
    · refine Kd.R_mono (Kd.R_lower (Kd.R_move (Kd.R_bound PK.out.r) (fun k hk => ?_)) (by omega)) (fun _ _ => trivial)
      have hk1 : k ≠ w.heap.size + 1 := by
        have := hk.2.1
        omega
      simp only [hne _ _ _ _ hk1]
    · exact hB _ _ _ (hB _ _ _ (hB _ _ _ (hB _ _ _ (hB _ _ _ (hB _ _ _ (hB _ _ _ (hB _ _ _ PK.out.bel)))))))
  · simp only [Bool.false_eq_true, if_true, if_false, Prod.mk.injEq] at h
    obtain ⟨rfl, rfl, rfl, rfl, rfl, rfl, rfl, rfl⟩ := h
    have q00 := blk_cell HP.out.o 0
    have hsz2 : w.heap.size + 1 + 1 = w.heap.size + 2 := rfl
    go_enter Tryd.func18, Tryd.ntmps18
    go_wp2_with (first
      | (go_at_call 29; with_reducible refine (HcN.out _).mono ?_; rintro e XN ⟨rfl, hd⟩; have PN := Aside0.mk (PlR.below (HP.out) hd.below); clear hd; have qsN := blk_cell PN.out.o 4; have qcN := blk_cell PN.out.out 4; have qfN := blk_frozen PN.out.out 4; have PN' := Aside0.mk (PlR.put (vA' := 0) (vB' := 0) (vC' := 0) (vN' := a0_4) (vS' := (⟨#[]⟩ : ByteArray)) (vK' := false) PN.out 4 (.int .i64 a0_4) rfl); have qkN := blk_cell PN'.out.o 0)
      | (go_at_call 29; with_reducible refine (HcS.out _).mono ?_; rintro e XS ⟨rfl, hd⟩; have PS := Aside0.mk (PlR.below (PN'.out) hd.below); clear hd; have qkS := blk_cell PS.out.o 0)
      | (go_at_call 29; with_reducible refine (HcA.out _).mono ?_; rintro e XA ⟨rfl, hd⟩; have PA := Aside0.mk (PlR.below (PS.out) hd.below); clear hd; have qkA := blk_cell PA.out.o 0)
      | (go_at_call 29; with_reducible refine (HcB.out _).mono ?_; rintro e XB ⟨rfl, hd⟩; have PB := Aside0.mk (PlR.below (PA.out) hd.below); clear hd; have qkB := blk_cell PB.out.o 0)
      | (go_at_call 29; with_reducible refine (HcC.out _).mono ?_; rintro e XC ⟨rfl, hd⟩; have PC := Aside0.mk (PlR.below (PB.out) hd.below); clear hd; have qkC := blk_cell PC.out.o 0)
      | (go_at_call 29; with_reducible refine (HcL.out _).mono ?_; rintro e XL ⟨rfl, hd⟩; have PL := Aside0.mk (PlR.below (PC.out) hd.below); clear hd; have qsL := blk_cell PL.out.o 6)
      | ((with_reducible refine gate_dst (N := 40) rfl ?_); refine Kd.R_lit (Kd.int .i64) XL.heap.size 3 ?hg (N := 40) ?hd (xs := ([] : List Int)) (inner := []) (ok := fun _ => True) (okp := fun _ => True) ?hr ?hp (fun _ hk => hk) trivial (Below.refl _ _) (Nat.le_refl _) (by simp) ?_; (case hd => rfl); (case hg => rfl); (case hr => first | (go_simp; done) | (go_simp; rfl)); (case hp => exact (Reps.none _ _)); intro vn w5 ho6 hb hg_ hnew_; clear hg_ hnew_; have HO6 := Aside0.mk ho6; have HB6 := Aside0.mk hb; have PL5 := Aside0.mk (PlR.below PL.out hb); have qsL5 := blk_cell PL5.out.o 6; clear ho6 hb)
      | ((with_reducible refine gate_builtin (b := .append) (xs := #[.tmp 40, .tmp 42]) rfl ?_); at_builtin; refine Kd.R_append_rows (Kd.int .i64) (w0 := XL) XL.heap.size rfl (.tmp 40) (.tmp 42) 31 3 (.int .i64 0) 8 rfl Tryd.underlying31 info3 rfl (by decide) (by omega) vn [] l0_6 _ _ _ (fun _ => True) (fun _ => False) rfl rfl ?aO ?aR (fun _ _ h => h) (fun _ h => h.elim) ?aF ?aB ?aS ?aL ?_; (case aR => exact Kd.C_below HR.out PL5.out.bel); (case aB => exact HB6.out); (case aF => exact (fun _ _ => trivial)); (case aO => exact HO6.out); (case aS => exact HB6.out.size); (case aL => have := HLL.out; simp; omega); intro v120 w9 ho hb hg hat; rw [List.nil_append] at ho; have PL9 := Aside0.mk (PlR.below PL.out hb); obtain ⟨Ao, co, rfl⟩ := Kd.R_slice ho; have HO9 := Aside0.mk (Kd.R_mono (Kd.R_lower ho (show w.heap.size + 3 ≤ XL.heap.size by have := PL.out.lt; omega)) (fun _ _ => trivial)); have PL' := Aside0.mk (PlR.putL PL9.out HO9.out); have qcL := blk_cell PL9.out.out 6; have qfL := blk_frozen PL9.out.out 6; have qkL := blk_cell PL'.out.o 0; clear ho hb hg hat)
      | (go_at_call 29; with_reducible refine (HcK.out _).mono ?_; rintro e XK ⟨rfl, hd⟩; have PK := Aside0.mk (PlR.below (PL'.out) hd.below); clear hd; have qsK := blk_cell PK.out.o 7; have qcK := blk_cell PK.out.out 7; have qfK := blk_frozen PK.out.out 7; have PK' := Aside0.mk (PlR.put (vA' := 0) (vB' := 0) (vC' := 0) (vN' := a0_4) (vS' := (⟨#[]⟩ : ByteArray)) (vK' := a0_7) PK.out 7 (.bool a0_7) rfl); have qkK := blk_cell PK'.out.o 0; have hz := blk_frozen PK'.out.res; have hpp := blk_cell PK'.out.res; have hq := blk_cell PK'.out.out))
    have hne : ∀ (V : World) (i j : Nat) (u : Value), j ≠ w.heap.size + 1 → (V.setCell ⟨w.heap.size + 1, i, none⟩ u).heap[j]? = V.heap[j]? := fun V i j u hj => Below.heap_setCell V ⟨w.heap.size + 1, i, none⟩ u j hj
    have hB : ∀ (V : World) (i : Nat) (u : Value), Below w.heap.size w V → Below w.heap.size w (V.setCell ⟨w.heap.size + 1, i, none⟩ u) := fun V i u h => h.setCell (p := ⟨w.heap.size + 1, i, none⟩) (by show w.heap.size ≤ w.heap.size + 1; omega) _
    refine bodyPost_ret (results_cell_row rfl _ _ (w.heap.size + 1) 33 #[.int .i64 a0_0, .int .i64 0, .int .i64 0, .int .i64 0, .int .i64 a0_4, .string (⟨#[]⟩ : ByteArray), .slice Ao l0_6.length co, .bool a0_7] (0, 0) _ rfl ?_ Tryd.underlying33 rfl (by kernel_rfl)) rfl ⟨(.slice Ao l0_6.length co), rfl, ?_, ?_⟩
    · have h1 := blk_set (blk_set (blk_set (blk_set (blk_set (blk_set (blk_set (blk_set (PK'.out.res) 0 (.int .i64 a0_0)) 1 (.int .i64 0)) 2 (.int .i64 0)) 3 (.int .i64 0)) 4 (.int .i64 a0_4)) 5 (.string (⟨#[]⟩ : ByteArray))) 6 (.slice Ao l0_6.length co)) 7 (.bool a0_7)
      rw [h1]
      first | done | rfl | simp
    · refine Kd.R_mono (Kd.R_lower (Kd.R_move (Kd.R_bound PK'.out.r) (fun k hk => ?_)) (by omega)) (fun _ _ => trivial)
      have hk1 : k ≠ w.heap.size + 1 := by
        have := hk.2.1
        omega
      simp only [hne _ _ _ _ hk1]
    · exact hB _ _ _ (hB _ _ _ (hB _ _ _ (hB _ _ _ (hB _ _ _ (hB _ _ _ (hB _ _ _ (hB _ _ _ PK'.out.bel)))))))
  · simp only [Bool.false_eq_true, if_true, if_false, Prod.mk.injEq] at h
    obtain ⟨rfl, rfl, rfl, rfl, rfl, rfl, rfl, rfl⟩ := h
    have q00 := blk_cell HP.out.o 0
    have hsz2 : w.heap.size + 1 + 1 = w.heap.size + 2 := rfl
    go_enter Tryd.func18, Tryd.ntmps18
    go_wp2_with (first
      | (go_at_call 29; with_reducible refine (HcN.out _).mono ?_; rintro e XN ⟨rfl, hd⟩; have PN := Aside0.mk (PlR.below (HP.out) hd.below); clear hd; have qsN := blk_cell PN.out.o 4; have qcN := blk_cell PN.out.out 4; have qfN := blk_frozen PN.out.out 4; have PN' := Aside0.mk (PlR.put (vA' := 0) (vB' := 0) (vC' := 0) (vN' := a0_4) (vS' := (⟨#[]⟩ : ByteArray)) (vK' := false) PN.out 4 (.int .i64 a0_4) rfl); have qkN := blk_cell PN'.out.o 0)
      | (go_at_call 29; with_reducible refine (HcS.out _).mono ?_; rintro e XS ⟨rfl, hd⟩; have PS := Aside0.mk (PlR.below (PN'.out) hd.below); clear hd; have qkS := blk_cell PS.out.o 0)
      | (go_at_call 29; with_reducible refine (HcA.out _).mono ?_; rintro e XA ⟨rfl, hd⟩; have PA := Aside0.mk (PlR.below (PS.out) hd.below); clear hd; have qsA := blk_cell PA.out.o 1; have qcA := blk_cell PA.out.out 1; have qfA := blk_frozen PA.out.out 1; have PA' := Aside0.mk (PlR.put (vA' := a0_1) (vB' := 0) (vC' := 0) (vN' := a0_4) (vS' := (⟨#[]⟩ : ByteArray)) (vK' := false) PA.out 1 (.int .i64 a0_1) rfl); have qkA := blk_cell PA'.out.o 0)
      | (go_at_call 29; with_reducible refine (HcB.out _).mono ?_; rintro e XB ⟨rfl, hd⟩; have PB := Aside0.mk (PlR.below (PA'.out) hd.below); clear hd; have qkB := blk_cell PB.out.o 0)
      | (go_at_call 29; with_reducible refine (HcC.out _).mono ?_; rintro e XC ⟨rfl, hd⟩; have PC := Aside0.mk (PlR.below (PB.out) hd.below); clear hd; have qkC := blk_cell PC.out.o 0)
      | (go_at_call 29; with_reducible refine (HcL.out _).mono ?_; rintro e XL ⟨rfl, hd⟩; have PL := Aside0.mk (PlR.below (PC.out) hd.below); clear hd; have qkL := blk_cell PL.out.o 0)
      | (go_at_call 29; with_reducible refine (HcK.out _).mono ?_; rintro e XK ⟨rfl, hd⟩; have PK := Aside0.mk (PlR.below (PL.out) hd.below); clear hd; have qkK := blk_cell PK.out.o 0; have hz := blk_frozen PK.out.res; have hpp := blk_cell PK.out.res; have hq := blk_cell PK.out.out))
    have hne : ∀ (V : World) (i j : Nat) (u : Value), j ≠ w.heap.size + 1 → (V.setCell ⟨w.heap.size + 1, i, none⟩ u).heap[j]? = V.heap[j]? := fun V i j u hj => Below.heap_setCell V ⟨w.heap.size + 1, i, none⟩ u j hj
    have hB : ∀ (V : World) (i : Nat) (u : Value), Below w.heap.size w V → Below w.heap.size w (V.setCell ⟨w.heap.size + 1, i, none⟩ u) := fun V i u h => h.setCell (p := ⟨w.heap.size + 1, i, none⟩) (by show w.heap.size ≤ w.heap.size + 1; omega) _
    refine bodyPost_ret (results_cell_row rfl _ _ (w.heap.size + 1) 33 #[.int .i64 a0_0, .int .i64 a0_1, .int .i64 0, .int .i64 0, .int .i64 a0_4, .string (⟨#[]⟩ : ByteArray), .slice none 0 0, .bool false] (0, 0) _ rfl ?_ Tryd.underlying33 rfl (by kernel_rfl)) rfl ⟨(.slice none 0 0), rfl, ?_, ?_⟩
    · have h1 := blk_set (blk_set (blk_set (blk_set (blk_set (blk_set (blk_set (blk_set (PK.out.res) 0 (.int .i64 a0_0)) 1 (.int .i64 a0_1)) 2 (.int .i64 0)) 3 (.int .i64 0)) 4 (.int .i64 a0_4)) 5 (.string (⟨#[]⟩ : ByteArray))) 6 (.slice none 0 0)) 7 (.bool false)
      rw [h1]
      first | done | rfl | simp
    · refine Kd.R_mono (Kd.R_lower (Kd.R_move (Kd.R_bound PK.out.r) (fun k hk => ?_)) (by omega)) (fun _ _ => trivial)
      have hk1 : k ≠ w.heap.size + 1 := by
        have := hk.2.1
        omega
      simp only [hne _ _ _ _ hk1]
    · exact hB _ _ _ (hB _ _ _ (hB _ _ _ (hB _ _ _ (hB _ _ _ (hB _ _ _ (hB _ _ _ (hB _ _ _ PK.out.bel)))))))
  · simp only [Bool.false_eq_true, if_true, if_false, Prod.mk.injEq] at h
    obtain ⟨rfl, rfl, rfl, rfl, rfl, rfl, rfl, rfl⟩ := h
    have q00 := blk_cell HP.out.o 0
    have hsz2 : w.heap.size + 1 + 1 = w.heap.size + 2 := rfl
    go_enter Tryd.func18, Tryd.ntmps18
    go_wp2_with (first
      | (go_at_call 29; with_reducible refine (HcN.out _).mono ?_; rintro e XN ⟨rfl, hd⟩; have PN := Aside0.mk (PlR.below (HP.out) hd.below); clear hd; have qsN := blk_cell PN.out.o 4; have qcN := blk_cell PN.out.out 4; have qfN := blk_frozen PN.out.out 4; have PN' := Aside0.mk (PlR.put (vA' := 0) (vB' := 0) (vC' := 0) (vN' := a0_4) (vS' := (⟨#[]⟩ : ByteArray)) (vK' := false) PN.out 4 (.int .i64 a0_4) rfl); have qkN := blk_cell PN'.out.o 0)
      | (go_at_call 29; with_reducible refine (HcS.out _).mono ?_; rintro e XS ⟨rfl, hd⟩; have PS := Aside0.mk (PlR.below (PN'.out) hd.below); clear hd; have qkS := blk_cell PS.out.o 0)
      | (go_at_call 29; with_reducible refine (HcA.out _).mono ?_; rintro e XA ⟨rfl, hd⟩; have PA := Aside0.mk (PlR.below (PS.out) hd.below); clear hd; have qkA := blk_cell PA.out.o 0)
      | (go_at_call 29; with_reducible refine (HcB.out _).mono ?_; rintro e XB ⟨rfl, hd⟩; have PB := Aside0.mk (PlR.below (PA.out) hd.below); clear hd; have qkB := blk_cell PB.out.o 0)
      | (go_at_call 29; with_reducible refine (HcC.out _).mono ?_; rintro e XC ⟨rfl, hd⟩; have PC := Aside0.mk (PlR.below (PB.out) hd.below); clear hd; have qkC := blk_cell PC.out.o 0)
      | (go_at_call 29; with_reducible refine (HcL.out _).mono ?_; rintro e XL ⟨rfl, hd⟩; have PL := Aside0.mk (PlR.below (PC.out) hd.below); clear hd; have qkL := blk_cell PL.out.o 0)
      | (go_at_call 29; with_reducible refine (HcK.out _).mono ?_; rintro e XK ⟨rfl, hd⟩; have PK := Aside0.mk (PlR.below (PL.out) hd.below); clear hd; have qsK := blk_cell PK.out.o 7; have qcK := blk_cell PK.out.out 7; have qfK := blk_frozen PK.out.out 7; have PK' := Aside0.mk (PlR.put (vA' := 0) (vB' := 0) (vC' := 0) (vN' := a0_4) (vS' := (⟨#[]⟩ : ByteArray)) (vK' := a0_7) PK.out 7 (.bool a0_7) rfl); have qkK := blk_cell PK'.out.o 0; have hz := blk_frozen PK'.out.res; have hpp := blk_cell PK'.out.res; have hq := blk_cell PK'.out.out))
    have hne : ∀ (V : World) (i j : Nat) (u : Value), j ≠ w.heap.size + 1 → (V.setCell ⟨w.heap.size + 1, i, none⟩ u).heap[j]? = V.heap[j]? := fun V i j u hj => Below.heap_setCell V ⟨w.heap.size + 1, i, none⟩ u j hj
    have hB : ∀ (V : World) (i : Nat) (u : Value), Below w.heap.size w V → Below w.heap.size w (V.setCell ⟨w.heap.size + 1, i, none⟩ u) := fun V i u h => h.setCell (p := ⟨w.heap.size + 1, i, none⟩) (by show w.heap.size ≤ w.heap.size + 1; omega) _
    refine bodyPost_ret (results_cell_row rfl _ _ (w.heap.size + 1) 33 #[.int .i64 a0_0, .int .i64 0, .int .i64 0, .int .i64 0, .int .i64 a0_4, .string (⟨#[]⟩ : ByteArray), .slice none 0 0, .bool a0_7] (0, 0) _ rfl ?_ Tryd.underlying33 rfl (by kernel_rfl)) rfl ⟨(.slice none 0 0), rfl, ?_, ?_⟩
    · have h1 := blk_set (blk_set (blk_set (blk_set (blk_set (blk_set (blk_set (blk_set (PK'.out.res) 0 (.int .i64 a0_0)) 1 (.int .i64 0)) 2 (.int .i64 0)) 3 (.int .i64 0)) 4 (.int .i64 a0_4)) 5 (.string (⟨#[]⟩ : ByteArray))) 6 (.slice none 0 0)) 7 (.bool a0_7)
      rw [h1]
      first | done | rfl | simp
    · refine Kd.R_mono (Kd.R_lower (Kd.R_move (Kd.R_bound PK'.out.r) (fun k hk => ?_)) (by omega)) (fun _ _ => trivial)
      have hk1 : k ≠ w.heap.size + 1 := by
        have := hk.2.1
        omega
      simp only [hne _ _ _ _ hk1]
    · exact hB _ _ _ (hB _ _ _ (hB _ _ _ (hB _ _ _ (hB _ _ _ (hB _ _ _ (hB _ _ _ (hB _ _ _ PK'.out.bel)))))))
  · simp only [Bool.false_eq_true, if_true, if_false, Prod.mk.injEq] at h
    obtain ⟨rfl, rfl, rfl, rfl, rfl, rfl, rfl, rfl⟩ := h
    have q00 := blk_cell HP.out.o 0
    have hsz2 : w.heap.size + 1 + 1 = w.heap.size + 2 := rfl
    go_enter Tryd.func18, Tryd.ntmps18
    go_wp2_with (first
      | (go_at_call 29; with_reducible refine (HcN.out _).mono ?_; rintro e XN ⟨rfl, hd⟩; have PN := Aside0.mk (PlR.below (HP.out) hd.below); clear hd; have qkN := blk_cell PN.out.o 0)
      | (go_at_call 29; with_reducible refine (HcS.out _).mono ?_; rintro e XS ⟨rfl, hd⟩; have PS := Aside0.mk (PlR.below (PN.out) hd.below); clear hd; have qkS := blk_cell PS.out.o 0)
      | (go_at_call 29; with_reducible refine (HcA.out _).mono ?_; rintro e XA ⟨rfl, hd⟩; have PA := Aside0.mk (PlR.below (PS.out) hd.below); clear hd; have qsA := blk_cell PA.out.o 1; have qcA := blk_cell PA.out.out 1; have qfA := blk_frozen PA.out.out 1; have PA' := Aside0.mk (PlR.put (vA' := a0_1) (vB' := 0) (vC' := 0) (vN' := 0) (vS' := (⟨#[]⟩ : ByteArray)) (vK' := false) PA.out 1 (.int .i64 a0_1) rfl); have qkA := blk_cell PA'.out.o 0)
      | (go_at_call 29; with_reducible refine (HcB.out _).mono ?_; rintro e XB ⟨rfl, hd⟩; have PB := Aside0.mk (PlR.below (PA'.out) hd.below); clear hd; have qsB := blk_cell PB.out.o 2; have qcB := blk_cell PB.out.out 2; have qfB := blk_frozen PB.out.out 2; have PB' := Aside0.mk (PlR.put (vA' := a0_1) (vB' := a0_2) (vC' := 0) (vN' := 0) (vS' := (⟨#[]⟩ : ByteArray)) (vK' := false) PB.out 2 (.int .i64 a0_2) rfl); have qkB := blk_cell PB'.out.o 0)
      | (go_at_call 29; with_reducible refine (HcC.out _).mono ?_; rintro e XC ⟨rfl, hd⟩; have PC := Aside0.mk (PlR.below (PB'.out) hd.below); clear hd; have qsC := blk_cell PC.out.o 3; have qcC := blk_cell PC.out.out 3; have qfC := blk_frozen PC.out.out 3; have PC' := Aside0.mk (PlR.put (vA' := a0_1) (vB' := a0_2) (vC' := a0_3) (vN' := 0) (vS' := (⟨#[]⟩ : ByteArray)) (vK' := false) PC.out 3 (.int .i64 a0_3) rfl); have qkC := blk_cell PC'.out.o 0)
      | (go_at_call 29; with_reducible refine (HcL.out _).mono ?_; rintro e XL ⟨rfl, hd⟩; have PL := Aside0.mk (PlR.below (PC'.out) hd.below); clear hd; have qkL := blk_cell PL.out.o 0)
      | (go_at_call 29; with_reducible refine (HcK.out _).mono ?_; rintro e XK ⟨rfl, hd⟩; have PK := Aside0.mk (PlR.below (PL.out) hd.below); clear hd; have qkK := blk_cell PK.out.o 0; have hz := blk_frozen PK.out.res; have hpp := blk_cell PK.out.res; have hq := blk_cell PK.out.out))
    have hne : ∀ (V : World) (i j : Nat) (u : Value), j ≠ w.heap.size + 1 → (V.setCell ⟨w.heap.size + 1, i, none⟩ u).heap[j]? = V.heap[j]? := fun V i j u hj => Below.heap_setCell V ⟨w.heap.size + 1, i, none⟩ u j hj
    have hB : ∀ (V : World) (i : Nat) (u : Value), Below w.heap.size w V → Below w.heap.size w (V.setCell ⟨w.heap.size + 1, i, none⟩ u) := fun V i u h => h.setCell (p := ⟨w.heap.size + 1, i, none⟩) (by show w.heap.size ≤ w.heap.size + 1; omega) _
    refine bodyPost_ret (results_cell_row rfl _ _ (w.heap.size + 1) 33 #[.int .i64 a0_0, .int .i64 a0_1, .int .i64 a0_2, .int .i64 a0_3, .int .i64 0, .string (⟨#[]⟩ : ByteArray), .slice none 0 0, .bool false] (0, 0) _ rfl ?_ Tryd.underlying33 rfl (by kernel_rfl)) rfl ⟨(.slice none 0 0), rfl, ?_, ?_⟩
    · have h1 := blk_set (blk_set (blk_set (blk_set (blk_set (blk_set (blk_set (blk_set (PK.out.res) 0 (.int .i64 a0_0)) 1 (.int .i64 a0_1)) 2 (.int .i64 a0_2)) 3 (.int .i64 a0_3)) 4 (.int .i64 0)) 5 (.string (⟨#[]⟩ : ByteArray))) 6 (.slice none 0 0)) 7 (.bool false)
      rw [h1]
      first | done | rfl | simp
    · refine Kd.R_mono (Kd.R_lower (Kd.R_move (Kd.R_bound PK.out.r) (fun k hk => ?_)) (by omega)) (fun _ _ => trivial)
      have hk1 : k ≠ w.heap.size + 1 := by
        have := hk.2.1
        omega
      simp only [hne _ _ _ _ hk1]
    · exact hB _ _ _ (hB _ _ _ (hB _ _ _ (hB _ _ _ (hB _ _ _ (hB _ _ _ (hB _ _ _ (hB _ _ _ PK.out.bel)))))))
  · simp only [Bool.false_eq_true, if_true, if_false, Prod.mk.injEq] at h
    obtain ⟨rfl, rfl, rfl, rfl, rfl, rfl, rfl, rfl⟩ := h
    have q00 := blk_cell HP.out.o 0
    have hsz2 : w.heap.size + 1 + 1 = w.heap.size + 2 := rfl
    go_enter Tryd.func18, Tryd.ntmps18
    go_wp2_with (first
      | (go_at_call 29; with_reducible refine (HcN.out _).mono ?_; rintro e XN ⟨rfl, hd⟩; have PN := Aside0.mk (PlR.below (HP.out) hd.below); clear hd; have qkN := blk_cell PN.out.o 0)
      | (go_at_call 29; with_reducible refine (HcS.out _).mono ?_; rintro e XS ⟨rfl, hd⟩; have PS := Aside0.mk (PlR.below (PN.out) hd.below); clear hd; have qkS := blk_cell PS.out.o 0)
      | (go_at_call 29; with_reducible refine (HcA.out _).mono ?_; rintro e XA ⟨rfl, hd⟩; have PA := Aside0.mk (PlR.below (PS.out) hd.below); clear hd; have qkA := blk_cell PA.out.o 0)
      | (go_at_call 29; with_reducible refine (HcB.out _).mono ?_; rintro e XB ⟨rfl, hd⟩; have PB := Aside0.mk (PlR.below (PA.out) hd.below); clear hd; have qkB := blk_cell PB.out.o 0)
      | (go_at_call 29; with_reducible refine (HcC.out _).mono ?_; rintro e XC ⟨rfl, hd⟩; have PC := Aside0.mk (PlR.below (PB.out) hd.below); clear hd; have qkC := blk_cell PC.out.o 0)
      | (go_at_call 29; with_reducible refine (HcL.out _).mono ?_; rintro e XL ⟨rfl, hd⟩; have PL := Aside0.mk (PlR.below (PC.out) hd.below); clear hd; have qkL := blk_cell PL.out.o 0)
      | (go_at_call 29; with_reducible refine (HcK.out _).mono ?_; rintro e XK ⟨rfl, hd⟩; have PK := Aside0.mk (PlR.below (PL.out) hd.below); clear hd; have qsK := blk_cell PK.out.o 7; have qcK := blk_cell PK.out.out 7; have qfK := blk_frozen PK.out.out 7; have PK' := Aside0.mk (PlR.put (vA' := 0) (vB' := 0) (vC' := 0) (vN' := 0) (vS' := (⟨#[]⟩ : ByteArray)) (vK' := a0_7) PK.out 7 (.bool a0_7) rfl); have qkK := blk_cell PK'.out.o 0; have hz := blk_frozen PK'.out.res; have hpp := blk_cell PK'.out.res; have hq := blk_cell PK'.out.out))
    have hne : ∀ (V : World) (i j : Nat) (u : Value), j ≠ w.heap.size + 1 → (V.setCell ⟨w.heap.size + 1, i, none⟩ u).heap[j]? = V.heap[j]? := fun V i j u hj => Below.heap_setCell V ⟨w.heap.size + 1, i, none⟩ u j hj
    have hB : ∀ (V : World) (i : Nat) (u : Value), Below w.heap.size w V → Below w.heap.size w (V.setCell ⟨w.heap.size + 1, i, none⟩ u) := fun V i u h => h.setCell (p := ⟨w.heap.size + 1, i, none⟩) (by show w.heap.size ≤ w.heap.size + 1; omega) _
    refine bodyPost_ret (results_cell_row rfl _ _ (w.heap.size + 1) 33 #[.int .i64 a0_0, .int .i64 0, .int .i64 0, .int .i64 0, .int .i64 0, .string (⟨#[]⟩ : ByteArray), .slice none 0 0, .bool a0_7] (0, 0) _ rfl ?_ Tryd.underlying33 rfl (by kernel_rfl)) rfl ⟨(.slice none 0 0), rfl, ?_, ?_⟩
    · have h1 := blk_set (blk_set (blk_set (blk_set (blk_set (blk_set (blk_set (blk_set (PK'.out.res) 0 (.int .i64 a0_0)) 1 (.int .i64 0)) 2 (.int .i64 0)) 3 (.int .i64 0)) 4 (.int .i64 0)) 5 (.string (⟨#[]⟩ : ByteArray))) 6 (.slice none 0 0)) 7 (.bool a0_7)
      rw [h1]
      first | done | rfl | simp
    · refine Kd.R_mono (Kd.R_lower (Kd.R_move (Kd.R_bound PK'.out.r) (fun k hk => ?_)) (by omega)) (fun _ _ => trivial)
      have hk1 : k ≠ w.heap.size + 1 := by
        have := hk.2.1
        omega
      simp only [hne _ _ _ _ hk1]
    · exact hB _ _ _ (hB _ _ _ (hB _ _ _ (hB _ _ _ (hB _ _ _ (hB _ _ _ (hB _ _ _ (hB _ _ _ PK'.out.bel)))))))
  · simp only [Bool.false_eq_true, if_true, if_false, Prod.mk.injEq] at h
    obtain ⟨rfl, rfl, rfl, rfl, rfl, rfl, rfl, rfl⟩ := h
    have q00 := blk_cell HP.out.o 0
    have hsz2 : w.heap.size + 1 + 1 = w.heap.size + 2 := rfl
    go_enter Tryd.func18, Tryd.ntmps18
    go_wp2_with (first
      | (go_at_call 29; with_reducible refine (HcN.out _).mono ?_; rintro e XN ⟨rfl, hd⟩; have PN := Aside0.mk (PlR.below (HP.out) hd.below); clear hd; have qsN := blk_cell PN.out.o 4; have qcN := blk_cell PN.out.out 4; have qfN := blk_frozen PN.out.out 4; have PN' := Aside0.mk (PlR.put (vA' := 0) (vB' := 0) (vC' := 0) (vN' := a0_4) (vS' := (⟨#[]⟩ : ByteArray)) (vK' := false) PN.out 4 (.int .i64 a0_4) rfl); have qkN := blk_cell PN'.out.o 0)
      | (go_at_call 29; with_reducible refine (HcS.out _).mono ?_; rintro e XS ⟨rfl, hd⟩; have PS := Aside0.mk (PlR.below (PN'.out) hd.below); clear hd; have qkS := blk_cell PS.out.o 0)
      | (go_at_call 29; with_reducible refine (HcA.out _).mono ?_; rintro e XA ⟨rfl, hd⟩; have PA := Aside0.mk (PlR.below (PS.out) hd.below); clear hd; have qkA := blk_cell PA.out.o 0)
      | (go_at_call 29; with_reducible refine (HcB.out _).mono ?_; rintro e XB ⟨rfl, hd⟩; have PB := Aside0.mk (PlR.below (PA.out) hd.below); clear hd; have qkB := blk_cell PB.out.o 0)
      | (go_at_call 29; with_reducible refine (HcC.out _).mono ?_; rintro e XC ⟨rfl, hd⟩; have PC := Aside0.mk (PlR.below (PB.out) hd.below); clear hd; have qkC := blk_cell PC.out.o 0)
      | (go_at_call 29; with_reducible refine (HcL.out _).mono ?_; rintro e XL ⟨rfl, hd⟩; have PL := Aside0.mk (PlR.below (PC.out) hd.below); clear hd; have qsL := blk_cell PL.out.o 6)
      | ((with_reducible refine gate_dst (N := 40) rfl ?_); refine Kd.R_lit (Kd.int .i64) XL.heap.size 3 ?hg (N := 40) ?hd (xs := ([] : List Int)) (inner := []) (ok := fun _ => True) (okp := fun _ => True) ?hr ?hp (fun _ hk => hk) trivial (Below.refl _ _) (Nat.le_refl _) (by simp) ?_; (case hd => rfl); (case hg => rfl); (case hr => first | (go_simp; done) | (go_simp; rfl)); (case hp => exact (Reps.none _ _)); intro vn w5 ho6 hb hg_ hnew_; clear hg_ hnew_; have HO6 := Aside0.mk ho6; have HB6 := Aside0.mk hb; have PL5 := Aside0.mk (PlR.below PL.out hb); have qsL5 := blk_cell PL5.out.o 6; clear ho6 hb)
      | ((with_reducible refine gate_builtin (b := .append) (xs := #[.tmp 40, .tmp 42]) rfl ?_); at_builtin; refine Kd.R_append_rows (Kd.int .i64) (w0 := XL) XL.heap.size rfl (.tmp 40) (.tmp 42) 31 3 (.int .i64 0) 8 rfl Tryd.underlying31 info3 rfl (by decide) (by omega) vn [] l0_6 _ _ _ (fun _ => True) (fun _ => False) rfl rfl ?aO ?aR (fun _ _ h => h) (fun _ h => h.elim) ?aF ?aB ?aS ?aL ?_; (case aR => exact Kd.C_below HR.out PL5.out.bel); (case aB => exact HB6.out); (case aF => exact (fun _ _ => trivial)); (case aO => exact HO6.out); (case aS => exact HB6.out.size); (case aL => have := HLL.out; simp; omega); intro v120 w9 ho hb hg hat; rw [List.nil_append] at ho; have PL9 := Aside0.mk (PlR.below PL.out hb); obtain ⟨Ao, co, rfl⟩ := Kd.R_slice ho; have HO9 := Aside0.mk (Kd.R_mono (Kd.R_lower ho (show w.heap.size + 3 ≤ XL.heap.size by have := PL.out.lt; omega)) (fun _ _ => trivial)); have PL' := Aside0.mk (PlR.putL PL9.out HO9.out); have qcL := blk_cell PL9.out.out 6; have qfL := blk_frozen PL9.out.out 6; have qkL := blk_cell PL'.out.o 0; clear ho hb hg hat)
      | (go_at_call 29; with_reducible refine (HcK.out _).mono ?_; rintro e XK ⟨rfl, hd⟩; have PK := Aside0.mk (PlR.below (PL'.out) hd.below); clear hd; have qkK := blk_cell PK.out.o 0; have hz := blk_frozen PK.out.res; have hpp := blk_cell PK.out.res; have hq := blk_cell PK.out.out))
    have hne : ∀ (V : World) (i j : Nat) (u : Value), j ≠ w.heap.size + 1 → (V.setCell ⟨w.heap.size + 1, i, none⟩ u).heap[j]? = V.heap[j]? := fun V i j u hj => Below.heap_setCell V ⟨w.heap.size + 1, i, none⟩ u j hj
    have hB : ∀ (V : World) (i : Nat) (u : Value), Below w.heap.size w V → Below w.heap.size w (V.setCell ⟨w.heap.size + 1, i, none⟩ u) := fun V i u h => h.setCell (p := ⟨w.heap.size + 1, i, none⟩) (by show w.heap.size ≤ w.heap.size + 1; omega) _
    refine bodyPost_ret (results_cell_row rfl _ _ (w.heap.size + 1) 33 #[.int .i64 a0_0, .int .i64 0, .int .i64 0, .int .i64 0, .int .i64 a0_4, .string (⟨#[]⟩ : ByteArray), .slice Ao l0_6.length co, .bool false] (0, 0) _ rfl ?_ Tryd.underlying33 rfl (by kernel_rfl)) rfl ⟨(.slice Ao l0_6.length co), rfl, ?_, ?_⟩
    · have h1 := blk_set (blk_set (blk_set (blk_set (blk_set (blk_set (blk_set (blk_set (PK.out.res) 0 (.int .i64 a0_0)) 1 (.int .i64 0)) 2 (.int .i64 0)) 3 (.int .i64 0)) 4 (.int .i64 a0_4)) 5 (.string (⟨#[]⟩ : ByteArray))) 6 (.slice Ao l0_6.length co)) 7 (.bool false)
      rw [h1]
      first | done | rfl | simp
    · refine Kd.R_mono (Kd.R_lower (Kd.R_move (Kd.R_bound PK.out.r) (fun k hk => ?_)) (by omega)) (fun _ _ => trivial)
      have hk1 : k ≠ w.heap.size + 1 := by
        have := hk.2.1
        omega
      simp only [hne _ _ _ _ hk1]
    · exact hB _ _ _ (hB _ _ _ (hB _ _ _ (hB _ _ _ (hB _ _ _ (hB _ _ _ (hB _ _ _ (hB _ _ _ PK.out.bel)))))))
  · simp only [Bool.false_eq_true, if_true, if_false, Prod.mk.injEq] at h
    obtain ⟨rfl, rfl, rfl, rfl, rfl, rfl, rfl, rfl⟩ := h
    have q00 := blk_cell HP.out.o 0
    have hsz2 : w.heap.size + 1 + 1 = w.heap.size + 2 := rfl
    go_enter Tryd.func18, Tryd.ntmps18
    go_wp2_with (first
      | (go_at_call 29; with_reducible refine (HcN.out _).mono ?_; rintro e XN ⟨rfl, hd⟩; have PN := Aside0.mk (PlR.below (HP.out) hd.below); clear hd; have qsN := blk_cell PN.out.o 4; have qcN := blk_cell PN.out.out 4; have qfN := blk_frozen PN.out.out 4; have PN' := Aside0.mk (PlR.put (vA' := 0) (vB' := 0) (vC' := 0) (vN' := a0_4) (vS' := (⟨#[]⟩ : ByteArray)) (vK' := false) PN.out 4 (.int .i64 a0_4) rfl); have qkN := blk_cell PN'.out.o 0)
      | (go_at_call 29; with_reducible refine (HcS.out _).mono ?_; rintro e XS ⟨rfl, hd⟩; have PS := Aside0.mk (PlR.below (PN'.out) hd.below); clear hd; have qkS := blk_cell PS.out.o 0)
      | (go_at_call 29; with_reducible refine (HcA.out _).mono ?_; rintro e XA ⟨rfl, hd⟩; have PA := Aside0.mk (PlR.below (PS.out) hd.below); clear hd; have qsA := blk_cell PA.out.o 1; have qcA := blk_cell PA.out.out 1; have qfA := blk_frozen PA.out.out 1; have PA' := Aside0.mk (PlR.put (vA' := a0_1) (vB' := 0) (vC' := 0) (vN' := a0_4) (vS' := (⟨#[]⟩ : ByteArray)) (vK' := false) PA.out 1 (.int .i64 a0_1) rfl); have qkA := blk_cell PA'.out.o 0)
      | (go_at_call 29; with_reducible refine (HcB.out _).mono ?_; rintro e XB ⟨rfl, hd⟩; have PB := Aside0.mk (PlR.below (PA'.out) hd.below); clear hd; have qkB := blk_cell PB.out.o 0)
      | (go_at_call 29; with_reducible refine (HcC.out _).mono ?_; rintro e XC ⟨rfl, hd⟩; have PC := Aside0.mk (PlR.below (PB.out) hd.below); clear hd; have qkC := blk_cell PC.out.o 0)
      | (go_at_call 29; with_reducible refine (HcL.out _).mono ?_; rintro e XL ⟨rfl, hd⟩; have PL := Aside0.mk (PlR.below (PC.out) hd.below); clear hd; have qsL := blk_cell PL.out.o 6)
      | ((with_reducible refine gate_dst (N := 40) rfl ?_); refine Kd.R_lit (Kd.int .i64) XL.heap.size 3 ?hg (N := 40) ?hd (xs := ([] : List Int)) (inner := []) (ok := fun _ => True) (okp := fun _ => True) ?hr ?hp (fun _ hk => hk) trivial (Below.refl _ _) (Nat.le_refl _) (by simp) ?_; (case hd => rfl); (case hg => rfl); (case hr => first | (go_simp; done) | (go_simp; rfl)); (case hp => exact (Reps.none _ _)); intro vn w5 ho6 hb hg_ hnew_; clear hg_ hnew_; have HO6 := Aside0.mk ho6; have HB6 := Aside0.mk hb; have PL5 := Aside0.mk (PlR.below PL.out hb); have qsL5 := blk_cell PL5.out.o 6; clear ho6 hb)
      | ((with_reducible refine gate_builtin (b := .append) (xs := #[.tmp 40, .tmp 42]) rfl ?_); at_builtin; refine Kd.R_append_rows (Kd.int .i64) (w0 := XL) XL.heap.size rfl (.tmp 40) (.tmp 42) 31 3 (.int .i64 0) 8 rfl Tryd.underlying31 info3 rfl (by decide) (by omega) vn [] l0_6 _ _ _ (fun _ => True) (fun _ => False) rfl rfl ?aO ?aR (fun _ _ h => h) (fun _ h => h.elim) ?aF ?aB ?aS ?aL ?_; (case aR => exact Kd.C_below HR.out PL5.out.bel); (case aB => exact HB6.out); (case aF => exact (fun _ _ => trivial)); (case aO => exact HO6.out); (case aS => exact HB6.out.size); (case aL => have := HLL.out; simp; omega); intro v120 w9 ho hb hg hat; rw [List.nil_append] at ho; have PL9 := Aside0.mk (PlR.below PL.out hb); obtain ⟨Ao, co, rfl⟩ := Kd.R_slice ho; have HO9 := Aside0.mk (Kd.R_mono (Kd.R_lower ho (show w.heap.size + 3 ≤ XL.heap.size by have := PL.out.lt; omega)) (fun _ _ => trivial)); have PL' := Aside0.mk (PlR.putL PL9.out HO9.out); have qcL := blk_cell PL9.out.out 6; have qfL := blk_frozen PL9.out.out 6; have qkL := blk_cell PL'.out.o 0; clear ho hb hg hat)
      | (go_at_call 29; with_reducible refine (HcK.out _).mono ?_; rintro e XK ⟨rfl, hd⟩; have PK := Aside0.mk (PlR.below (PL'.out) hd.below); clear hd; have qkK := blk_cell PK.out.o 0; have hz := blk_frozen PK.out.res; have hpp := blk_cell PK.out.res; have hq := blk_cell PK.out.out))
    have hne : ∀ (V : World) (i j : Nat) (u : Value), j ≠ w.heap.size + 1 → (V.setCell ⟨w.heap.size + 1, i, none⟩ u).heap[j]? = V.heap[j]? := fun V i j u hj => Below.heap_setCell V ⟨w.heap.size + 1, i, none⟩ u j hj
    have hB : ∀ (V : World) (i : Nat) (u : Value), Below w.heap.size w V → Below w.heap.size w (V.setCell ⟨w.heap.size + 1, i, none⟩ u) := fun V i u h => h.setCell (p := ⟨w.heap.size + 1, i, none⟩) (by show w.heap.size ≤ w.heap.size + 1; omega) _
    refine bodyPost_ret (results_cell_row rfl _ _ (w.heap.size + 1) 33 #[.int .i64 a0_0, .int .i64 a0_1, .int .i64 0, .int .i64 0, .int .i64 a0_4, .string (⟨#[]⟩ : ByteArray), .slice Ao l0_6.length co, .bool false] (0, 0) _ rfl ?_ Tryd.underlying33 rfl (by kernel_rfl)) rfl ⟨(.slice Ao l0_6.length co), rfl, ?_, ?_⟩
    · have h1 := blk_set (blk_set (blk_set (blk_set (blk_set (blk_set (blk_set (blk_set (PK.out.res) 0 (.int .i64 a0_0)) 1 (.int .i64 a0_1)) 2 (.int .i64 0)) 3 (.int .i64 0)) 4 (.int .i64 a0_4)) 5 (.string (⟨#[]⟩ : ByteArray))) 6 (.slice Ao l0_6.length co)) 7 (.bool false)
      rw [h1]
      first | done | rfl | simp
    · refine Kd.R_mono (Kd.R_lower (Kd.R_move (Kd.R_bound PK.out.r) (fun k hk => ?_)) (by omega)) (fun _ _ => trivial)
      have hk1 : k ≠ w.heap.size + 1 := by
        have := hk.2.1
        omega
      simp only [hne _ _ _ _ hk1]
    · exact hB _ _ _ (hB _ _ _ (hB _ _ _ (hB _ _ _ (hB _ _ _ (hB _ _ _ (hB _ _ _ (hB _ _ _ PK.out.bel)))))))
  · simp only [Bool.false_eq_true, if_true, if_false, Prod.mk.injEq] at h
    obtain ⟨rfl, rfl, rfl, rfl, rfl, rfl, rfl, rfl⟩ := h
    have q00 := blk_cell HP.out.o 0
    have hsz2 : w.heap.size + 1 + 1 = w.heap.size + 2 := rfl
    go_enter Tryd.func18, Tryd.ntmps18
    go_wp2_with (first
      | (go_at_call 29; with_reducible refine (HcN.out _).mono ?_; rintro e XN ⟨rfl, hd⟩; have PN := Aside0.mk (PlR.below (HP.out) hd.below); clear hd; have qkN := blk_cell PN.out.o 0)
      | (go_at_call 29; with_reducible refine (HcS.out _).mono ?_; rintro e XS ⟨rfl, hd⟩; have PS := Aside0.mk (PlR.below (PN.out) hd.below); clear hd; have qkS := blk_cell PS.out.o 0)
      | (go_at_call 29; with_reducible refine (HcA.out _).mono ?_; rintro e XA ⟨rfl, hd⟩; have PA := Aside0.mk (PlR.below (PS.out) hd.below); clear hd; have qkA := blk_cell PA.out.o 0)
      | (go_at_call 29; with_reducible refine (HcB.out _).mono ?_; rintro e XB ⟨rfl, hd⟩; have PB := Aside0.mk (PlR.below (PA.out) hd.below); clear hd; have qkB := blk_cell PB.out.o 0)
      | (go_at_call 29; with_reducible refine (HcC.out _).mono ?_; rintro e XC ⟨rfl, hd⟩; have PC := Aside0.mk (PlR.below (PB.out) hd.below); clear hd; have qkC := blk_cell PC.out.o 0)
      | (go_at_call 29; with_reducible refine (HcL.out _).mono ?_; rintro e XL ⟨rfl, hd⟩; have PL := Aside0.mk (PlR.below (PC.out) hd.below); clear hd; have qkL := blk_cell PL.out.o 0)
      | (go_at_call 29; with_reducible refine (HcK.out _).mono ?_; rintro e XK ⟨rfl, hd⟩; have PK := Aside0.mk (PlR.below (PL.out) hd.below); clear hd; have qkK := blk_cell PK.out.o 0; have hz := blk_frozen PK.out.res; have hpp := blk_cell PK.out.res; have hq := blk_cell PK.out.out))
    have hne : ∀ (V : World) (i j : Nat) (u : Value), j ≠ w.heap.size + 1 → (V.setCell ⟨w.heap.size + 1, i, none⟩ u).heap[j]? = V.heap[j]? := fun V i j u hj => Below.heap_setCell V ⟨w.heap.size + 1, i, none⟩ u j hj
    have hB : ∀ (V : World) (i : Nat) (u : Value), Below w.heap.size w V → Below w.heap.size w (V.setCell ⟨w.heap.size + 1, i, none⟩ u) := fun V i u h => h.setCell (p := ⟨w.heap.size + 1, i, none⟩) (by show w.heap.size ≤ w.heap.size + 1; omega) _
    refine bodyPost_ret (results_cell_row rfl _ _ (w.heap.size + 1) 33 #[.int .i64 a0_0, .int .i64 0, .int .i64 0, .int .i64 0, .int .i64 0, .string (⟨#[]⟩ : ByteArray), .slice none 0 0, .bool false] (0, 0) _ rfl ?_ Tryd.underlying33 rfl (by kernel_rfl)) rfl ⟨(.slice none 0 0), rfl, ?_, ?_⟩
    · have h1 := blk_set (blk_set (blk_set (blk_set (blk_set (blk_set (blk_set (blk_set (PK.out.res) 0 (.int .i64 a0_0)) 1 (.int .i64 0)) 2 (.int .i64 0)) 3 (.int .i64 0)) 4 (.int .i64 0)) 5 (.string (⟨#[]⟩ : ByteArray))) 6 (.slice none 0 0)) 7 (.bool false)
      rw [h1]
      first | done | rfl | simp
    · refine Kd.R_mono (Kd.R_lower (Kd.R_move (Kd.R_bound PK.out.r) (fun k hk => ?_)) (by omega)) (fun _ _ => trivial)
      have hk1 : k ≠ w.heap.size + 1 := by
        have := hk.2.1
        omega
      simp only [hne _ _ _ _ hk1]
    · exact hB _ _ _ (hB _ _ _ (hB _ _ _ (hB _ _ _ (hB _ _ _ (hB _ _ _ (hB _ _ _ (hB _ _ _ PK.out.bel)))))))

/-! ### hallmarkref04_To: function 32 -/
def hallmarkref04_To.f (a0 : Int) (l1 : List Int) : Option (Int) := if a0 ≥ 0 then (if a0 < (l1.length : Int) then (if 0 ≤ a0 then (some (rd l1 a0)) else (none)) else (some a0)) else (some a0)
set_option maxHeartbeats 8000000 in
set_option maxRecDepth 100000 in
theorem hallmarkref04_To.calls (a0 : Int) (A1 : Option Addr) (c1 : Nat) (l1 : List Int) (r : Int) (w : World) (hr1 : Kd.C (Kd.int .i64) w A1 l1.length l1) (hc1 : l1.length ≤ c1) (h : hallmarkref04_To.f a0 l1 = some r) :
    Calls Tryd.prog 32 #[.int .i64 a0, .slice A1 l1.length c1] w fun e w' => e = .returned (.int .i64 r) ∧ Drawn0 w w' := by
  have HR1 := Aside0.mk hr1
  have HC1 := Aside0.mk hc1
  clear hr1 hc1
  have H : (if a0 ≥ 0 then (if a0 < (l1.length : Int) then (if 0 ≤ a0 then (some (rd l1 a0)) else (none)) else (some a0)) else (some a0)) = some r := h
  clear h
  by_cases c3 : a0 ≥ 0
  · rw [if_pos c3] at H
    have c3b0 : decide (0 ≤ a0) = true := decide_eq_true c3
    clear c3
    by_cases c4 : a0 < (l1.length : Int)
    · rw [if_pos c4] at H
      have c4b0 : decide (a0 < (l1.length : Int)) = true := decide_eq_true c4
      clear c4
      by_cases c5 : 0 ≤ a0
      · rw [if_pos c5] at H
        have c5b0 : decide (0 ≤ a0) = true := decide_eq_true c5
        clear c5
        obtain rfl := Option.some.inj H
        have p162 : 0 ≤ (a0 : Int) := of_decide_eq_true (by first | (with_reducible assumption) | assumption)
        have q162 : a0 < (l1.length : Int) := of_decide_eq_true (by first | (with_reducible assumption) | assumption)
        obtain ⟨ad162, e162, hx162_0⟩ := Kd.at_int HR1.out a0 p162 q162
        cases e162
        replace p162 := eq_true p162
        replace q162 := eq_true q162
        go_enter Tryd.func32, Tryd.ntmps32
        go_wp2
        go_ret
        exact ⟨by first | rfl | (simp; done) | (simp [*]; done), by repeat (first | exact Drawn0.refl _ | apply Drawn0.step)⟩
      · rw [if_neg c5] at H
        exact absurd H (by simp)
    · rw [if_neg c4] at H
      have c4b0 : decide (a0 < (l1.length : Int)) = false := decide_eq_false c4
      clear c4
      obtain rfl := Option.some.inj H
      go_enter Tryd.func32, Tryd.ntmps32
      go_wp2
      go_ret
      exact ⟨by first | rfl | (simp; done) | (simp [*]; done), by repeat (first | exact Drawn0.refl _ | apply Drawn0.step)⟩
  · rw [if_neg c3] at H
    have c3b0 : decide (0 ≤ a0) = false := decide_eq_false c3
    clear c3
    obtain rfl := Option.some.inj H
    go_enter Tryd.func32, Tryd.ntmps32
    go_wp2
    go_ret
    exact ⟨by first | rfl | (simp; done) | (simp [*]; done), by repeat (first | exact Drawn0.refl _ | apply Drawn0.step)⟩

/-! ### hallmarkref04_All: function 33 -/
def hallmarkref04_All.l0 : Nat → List Int → List Int → List Int → Int → Option (List Int)
  | 0, _, _, _, _ => none
  | k + 1, x0, x1, x5, x6 => if x6 < (x0.length : Int) then (if 0 ≤ x6 then ((hallmarkref04_To.f (rd x0 x6) x1).bind fun t167 => (if x5.length < 17592186044416 then (hallmarkref04_All.l0 k x0 x1 (x5 ++ [t167]) (wrap64 (x6 + 1))) else (none))) else (none)) else (some x5)
def hallmarkref04_All.f (k : Nat) (l0 : List Int) (l1 : List Int) : Option (List Int) := hallmarkref04_All.l0 k l0 l1 (([] : List Int)) 0
theorem hallmarkref04_All.mono_l : ∀ k, (∀ y0 y1 y2 y3, LeO (hallmarkref04_All.l0 k y0 y1 y2 y3) (hallmarkref04_All.l0 (k + 1) y0 y1 y2 y3))
  | 0 => fun _ _ _ _ r h => by simp [hallmarkref04_All.l0] at h
  | k + 1 => by
    have ih0 := hallmarkref04_All.mono_l k
    · intro y0 y1 y2 y3
      unfold hallmarkref04_All.l0
      repeat' first
      | (with_reducible exact ih0 _ _ _ _)
      | (with_reducible exact LeO.refl _)
      | (with_reducible exact LeO.none _)
      | (with_reducible refine LeO.ite ?_ ?_)
      | (with_reducible refine LeO.bind ?_ (fun _ => ?_))
      | exact ih0 _ _ _ _
      | exact LeO.none _
      | refine LeO.ite ?_ ?_
      | refine LeO.bind ?_ (fun _ => ?_)
theorem hallmarkref04_All.mono : ∀ a0 a1 k, LeO (hallmarkref04_All.f k a0 a1) (hallmarkref04_All.f (k + 1) a0 a1) := by
  intro a0 a1 k
  have ih0 := hallmarkref04_All.mono_l k
  unfold hallmarkref04_All.f
  repeat' first
      | (with_reducible exact ih0 _ _ _ _)
      | (with_reducible exact LeO.refl _)
      | (with_reducible exact LeO.none _)
      | (with_reducible refine LeO.ite ?_ ?_)
      | (with_reducible refine LeO.bind ?_ (fun _ => ?_))
      | exact ih0 _ _ _ _
      | exact LeO.none _
      | refine LeO.ite ?_ ?_
      | refine LeO.bind ?_ (fun _ => ?_)
set_option maxHeartbeats 8000000 in
set_option maxRecDepth 100000 in
theorem hallmarkref04_All.calls (k : Nat) (A0 : Option Addr) (c0 : Nat) (l0 : List Int) (A1 : Option Addr) (c1 : Nat) (l1 : List Int) (r : List Int) (w : World) (hr0 : Kd.C (Kd.int .i64) w A0 l0.length l0) (hc0 : l0.length ≤ c0) (hr1 : Kd.C (Kd.int .i64) w A1 l1.length l1) (hc1 : l1.length ≤ c1) (h : hallmarkref04_All.f k l0 l1 = some r) :
    Calls Tryd.prog 33 #[.slice A0 l0.length c0, .slice A1 l1.length c1] w fun e w' => ∃ v0_ : Value, e = .returned (v0_) ∧ Kd.R (Kd.int .i64) 3 w' w.heap.size (fun _ => True) v0_ r ∧ Below w.heap.size w w' := by
  have HR0 := Aside0.mk hr0
  have HC0 := Aside0.mk hc0
  clear hr0 hc0
  have HR1 := Aside0.mk hr1
  have HC1 := Aside0.mk hc1
  clear hr1 hc1
  have HB := Aside0.mk (Below.refl w.heap.size w)
  have H : (hallmarkref04_All.l0 k l0 l1 (([] : List Int)) 0) = some r := h
  clear h
  obtain ⟨y163, hy163⟩ : ∃ y_ : List Int, y_ = (([] : List Int)) := ⟨_, rfl⟩
  replace H : (hallmarkref04_All.l0 k l0 l1 y163 0) = some r := by first | (rw [hy163]; with_reducible exact H) | (have H2_ := (Option.bind_some _ _).symm.trans H; rw [hy163]; with_reducible exact H2_) | (have H2_ := (Option.bind_some _ _).symm.trans H; with_reducible exact H2_) | with_reducible exact H | (rw [hy163]; exact H) | exact H
  have Ny163 := Aside0.mk hy163
  clear hy163
  have H' := Aside0.mk H
  clear H
  go_enter Tryd.func33, Tryd.ntmps33
  go_wp2_with (first | ((with_reducible refine gate_dst (N := 7) rfl ?_); refine Kd.R_lit (Kd.int .i64) _ 3 ?hg (N := 7) ?hd (xs := ([] : List Int)) (inner := []) (ok := fun _ => True) (okp := fun _ => True) ?hr ?hp (fun _ hk => hk) trivial (Below.refl _ _) (Nat.le_refl _) (by simp) ?_; (case hd => rfl); (case hg => rfl); (case hr => first | (go_simp; done) | (go_simp; rfl)); (case hp => exact (Reps.none _ _)); intro v164 w3 ho4 hb hg_ hnew_; clear hg_ hnew_; (first | rw [← Ny163.out] at ho4 | (simp only [Int.reduceToNat] at ho4; rw [← Ny163.out] at ho4)); have n0_ := Aside0.mk (Kd.R_lower ho4 (below_size (by repeat (first | (with_reducible first | exact HB.out | apply below_alloc | apply pw_below_drewN | apply below_drew1) | exact HB.out)))); have n1_ := Aside0.mk (below_step (by repeat (first | (with_reducible first | exact HB.out | apply below_alloc | apply pw_below_drewN | apply below_drew1) | exact HB.out)) hb); clear HB; have HO165 := n0_; have HB := n1_; clear n0_ n1_; clear hb ho4))
  go_loopg [5, 6] k (fun kq v5 v6 w' => ∃ (x5_1 : List Int) (x6_1 : Int), v6 = .int .i64 x6_1 ∧ Aside0 (hallmarkref04_All.l0 kq l0 l1 x5_1 x6_1 = some r) ∧ Aside0 (kq ≤ k) ∧ Aside0 (Kd.R (Kd.int .i64) 3 w' w.heap.size (fun _ => True) v5 x5_1) ∧ Aside0 (Below w.heap.size w w'))
  case atStart => exact ⟨(y163), (0), (by first | rfl | (simp; done) | (simp [*]; done) | (simp [*, wrap64]; done) | (simp [*]; unfold wrap64; omega)), H', ⟨Nat.le_refl _⟩, ⟨by (with_reducible repeat (first | apply Kd.R_alloc | apply Kd.R_drewN | apply Kd.R_drew)); exact HO165.out⟩, ⟨by repeat (first | (with_reducible first | exact HB.out | apply below_alloc | apply pw_below_drewN | apply below_drew1) | exact HB.out)⟩⟩
  case round =>
    clear H'
    try clear c1
    try clear p2
    try clear c3
    obtain ⟨x5_1, x6_1, rfl, HA, HK1, HO_5, HB⟩ := hrel
    cases gk with
    | zero => exact absurd HA.out (by simp [hallmarkref04_All.l0])
    | succ k1 =>
      have H := HA.out
      clear HA
      simp only [hallmarkref04_All.l0] at H
      by_cases c5 : x6_1 < (l0.length : Int)
      · rw [if_pos c5] at H
        have c5b0 : decide (x6_1 < (l0.length : Int)) = true := decide_eq_true c5
        clear c5
        by_cases c6 : 0 ≤ x6_1
        · rw [if_pos c6] at H
          have c6b0 : decide (0 ≤ x6_1) = true := decide_eq_true c6
          clear c6
          replace H := Option.bind_eq_some_iff.mp H
          obtain ⟨t167, A70, H⟩ := H
          replace H : (if x5_1.length < 17592186044416 then (hallmarkref04_All.l0 k1 l0 l1 (x5_1 ++ [t167]) (wrap64 (x6_1 + 1))) else (none)) = some r := H
          have A7 := Aside0.mk A70
          clear A70
          by_cases c8 : x5_1.length < 17592186044416
          · rw [if_pos c8] at H
            have LMc8 := Aside0.mk c8
            clear c8
            obtain ⟨y168, hy168⟩ : ∃ y_ : List Int, y_ = (x5_1 ++ [t167]) := ⟨_, rfl⟩
            replace H : (hallmarkref04_All.l0 k1 l0 l1 y168 (wrap64 (x6_1 + 1))) = some r := by first | (rw [hy168]; with_reducible exact H) | (have H2_ := (Option.bind_some _ _).symm.trans H; rw [hy168]; with_reducible exact H2_) | (have H2_ := (Option.bind_some _ _).symm.trans H; with_reducible exact H2_) | with_reducible exact H | (rw [hy168]; exact H) | exact H
            have Ny168 := Aside0.mk hy168
            clear hy168
            have H' := Aside0.mk H
            clear H
            have p166 : 0 ≤ (x6_1 : Int) := of_decide_eq_true (by first | (with_reducible assumption) | assumption)
            have q166 : x6_1 < (l0.length : Int) := of_decide_eq_true (by first | (with_reducible assumption) | assumption)
            obtain ⟨ad166, e166, hx166_0⟩ := Kd.at_int HR0.out x6_1 p166 q166
            cases e166
            replace hx166_0 := (HB.out.cell (World.block_lt_of_cell? w _ hx166_0)).trans hx166_0
            replace p166 := eq_true p166
            replace q166 := eq_true q166
            go_wp2_with (first | ((with_reducible refine gate_callee (f := 32) rfl ?_); refine goesL_ (some 20) rfl rfl Tryd.func32 (by kernel_rfl) rfl #[.int .i64 (rd l0 x6_1), .slice A1 l1.length c1] rfl (by (try simp only [List.map_toArray, List.map_cons, List.map_nil]); first | done | rfl | (simp only [List.length_drop, List.length_take]; rfl)) ?_; (with_reducible refine (hallmarkref04_To.calls (rd l0 x6_1) _ _ l1 t167 _ ?side1 ?side2 A7.out).mono ?_); (case side1 => repeat (first | exact (Kd.C_below HR1.out HB.out) | (with_reducible refine Kd.C_alloc ?_ _) | (with_reducible refine Kd.C_drewN ?_ _) | (with_reducible refine Kd.C_drew ?_))); (case side2 => exact HC1.out); rintro e w' ⟨rfl, ⟨nd, rfl⟩⟩; refine ⟨_, rfl, ?_⟩) | ((with_reducible refine gate_builtin (b := .append) (xs := #[.tmp 14, .tmp 21]) rfl ?_); at_builtin; refine Kd.R_append (Kd.int .i64) (w0 := w) w.heap.size rfl (.tmp 14) (.tmp 21) 31 3 (.int .i64 0) 8 rfl Tryd.underlying31 info3 rfl (by decide) (by omega) u5 x5_1 t167 [.int .i64 t167] (fun _ => True) (fun _ => False) rfl rfl ?aP (fun _ hk => hk.elim) ?aF ?aO ?aB ?aS ?aL ?_; (case aP => exact rfl); (case aB => exact (by repeat (first | (with_reducible first | exact HB.out | apply below_alloc | apply pw_below_drewN | apply below_drew1) | exact HB.out))); (case aF => exact (fun _ _ => trivial)); (case aO => exact (by (with_reducible repeat (first | apply Kd.R_alloc | apply Kd.R_drewN | apply Kd.R_drew)); exact HO_5.out)); (case aS => exact (below_size (by repeat (first | (with_reducible first | exact HB.out | apply below_alloc | apply pw_below_drewN | apply below_drew1) | exact HB.out)))); (case aL => have := LMc8.out; omega); intro v169 w9 ho hb hg hat; rw [← Ny168.out] at ho; have n0_ := Aside0.mk (hb); have n1_ := Aside0.mk (ho); clear HB; clear HO_5; have HB := n0_; have HO170 := n1_; clear n0_ n1_; clear ho hb hg hat))
            go_roundg k1
            case measure => have := HK1.out; omega
            case rel => exact ⟨(y168), (wrap64 (x6_1 + 1)), (by first | rfl | (simp; done) | (simp [*]; done) | (simp [*, wrap64]; done) | (simp [*]; unfold wrap64; omega)), H', ⟨by have := HK1.out; omega⟩, ⟨by (with_reducible repeat (first | apply Kd.R_alloc | apply Kd.R_drewN | apply Kd.R_drew)); exact HO170.out⟩, ⟨by repeat (first | (with_reducible first | exact HB.out | apply below_alloc | apply pw_below_drewN | apply below_drew1) | exact HB.out)⟩⟩
          · rw [if_neg c8] at H
            exact absurd H (by simp)
        · rw [if_neg c6] at H
          exact absurd H (by simp)
      · rw [if_neg c5] at H
        have c5b0 : decide (x6_1 < (l0.length : Int)) = false := decide_eq_false c5
        clear c5
        obtain rfl := Option.some.inj H
        go_wp2
        go_ret
        exact ⟨_, by first | rfl | (simp [errW_none, errW_some] <;> rfl) | (simp [*, errW_none, errW_some] <;> rfl), by (with_reducible repeat (first | apply Kd.R_alloc | apply Kd.R_drewN | apply Kd.R_drew)); exact HO_5.out, by repeat (first | (with_reducible first | exact HB.out | apply below_alloc | apply pw_below_drewN | apply below_drew1) | exact HB.out)⟩

end Go.Proofs.YtbjdiaefchcbjaaDoor.PKindUses
