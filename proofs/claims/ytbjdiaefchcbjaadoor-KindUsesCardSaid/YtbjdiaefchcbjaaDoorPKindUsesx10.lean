-- written by wip/print2.py
import Derived.Test.YtbjdiaefchcbjaaDoorPKindUsesx0
import Derived.Test.YtbjdiaefchcbjaaDoorPKindUsesx3
import Derived.Test.YtbjdiaefchcbjaaDoorPKindUsesx8
import Derived.Test.YtbjdiaefchcbjaaDoorPKindUsesx9
namespace Go.Proofs.YtbjdiaefchcbjaaDoor.PKindUses
open Go.RowKit Go.Proofs.YtbjdiaefchcbjaaDoorW.PrintWords Go.Proofs.YtbjdiaefchcbjaaDoorW.PrintLast Go.Proofs.YtbjdiaefchcbjaaDoorW.PrintMore
attribute [local go_sem] max2_int min2_int max_two min_two max_three min_three max_four min_four   -- for this text's walks alone
set_option linter.unusedVariables false
set_option linter.unusedSimpArgs false

/-! ### hallmarkref04_Renamed: function 23 -/
theorem rw_nat (i : Nat) (h : i < 9223372036854775807) : wrap64 ((i : Int) + 1) = ((i + 1 : Nat) : Int) := by unfold wrap64; omega
theorem ref_to_is (x : Int) (l : List Int) : hallmarkref04_To.f x l = some (nm l x) := by
  unfold hallmarkref04_To.f nm
  by_cases h : x ≥ 0
  · have h' : 0 ≤ x := h
    by_cases h2 : x < (l.length : Int)
    · rw [if_pos h, if_pos h2, if_pos h', if_pos ⟨h', h2⟩]
    · rw [if_pos h, if_neg h2, if_neg (fun e => h2 e.2)]
  · rw [if_neg h, if_neg (fun e => h e.1)]
theorem ref_all_l (l t : List Int) (hl : l.length < 17592186044000) : ∀ (d i : Nat), d + i = l.length → Ev (fun k => hallmarkref04_All.l0 k l t ((l.take i).map (nm t)) (i : Int)) (l.map (nm t)) := by
  intro d
  induction d with
  | zero =>
    intro i hd
    refine Ev.step (f := fun _ => some (l.map (nm t))) (fun k => ?_) (Ev.now _)
    show hallmarkref04_All.l0 (k + 1) l t ((l.take i).map (nm t)) (i : Int) = some (l.map (nm t))
    rw [hallmarkref04_All.l0, if_neg (by omega), List.take_of_length_le (by omega)]
  | succ d ih =>
    intro i hd
    refine Ev.step (f := fun k => hallmarkref04_All.l0 k l t ((l.take (i + 1)).map (nm t)) ((i + 1 : Nat) : Int)) (fun k => ?_) (ih (i + 1) (by omega))
    show hallmarkref04_All.l0 (k + 1) l t ((l.take i).map (nm t)) (i : Int) = _
    have h1 : (i : Int) < (l.length : Int) := by omega
    have h2 : ((l.take i).map (nm t)).length < 17592186044416 := by rw [List.length_map, List.length_take]; omega
    have h3 : i < l.length := by omega
    have h4 : rd l (i : Int) = l[i] := by unfold rd; simp [h3]
    rw [hallmarkref04_All.l0, if_pos h1, if_pos (by omega), ref_to_is, h4]
    simp only [Option.bind_some, if_pos h2, rw_nat i (by omega)]
    rw [List.take_succ_eq_append_getElem h3, List.map_append]
    rfl
theorem ref_all_ev (l t : List Int) (hl : l.length < 17592186044000) : Ev (fun k => hallmarkref04_All.f k l t) (l.map (nm t)) := ref_all_l l t hl l.length 0 (by omega)
/-- How things lie in Renamed. -/
structure RnR (w : World) (K vA vB vC vN : Int) (vS : ByteArray) (vL : Value) (lL : List Int) (vK : Bool) (W : World) : Prop where
  bel : Below w.heap.size w W
  o : W.heap[w.heap.size]? = some (.cells #[.int .i64 K, .int .i64 vA, .int .i64 vB, .int .i64 vC, .int .i64 vN, .string vS, vL, .bool vK] 33 (0, 0))
  res : W.heap[w.heap.size + 1]? = some (.cells #[.int .i64 0, .int .i64 0, .int .i64 0, .int .i64 0, .int .i64 0, .string (⟨#[]⟩ : ByteArray), .slice none 0 0, .bool false] 33 (0, 0))
  r : Kd.R (Kd.int .i64) 3 W (w.heap.size + 2) (fun _ => True) vL lL
section
variable {w : World} {K vA vB vC vN : Int} {vS : ByteArray} {vL : Value} {lL : List Int} {vK : Bool} {W W' : World}
theorem RnR.lt (h : RnR w K vA vB vC vN vS vL lL vK W) : w.heap.size + 1 < W.heap.size := (Array.getElem?_eq_some_iff.1 h.res).1
theorem RnR.below (h : RnR w K vA vB vC vN vS vL lL vK W) (hb : Below W.heap.size W W') : RnR w K vA vB vC vN vS vL lL vK W' := by
  have hl := h.lt
  exact ⟨below_step h.bel hb, (hb.block _ (by omega)).trans h.o, (hb.block _ hl).trans h.res, Kd.R_below h.r hb⟩
theorem RnR.put (h : RnR w K vA vB vC vN vS vL lL vK W) (j : Nat) (u : Value) {vA' vB' vC' : Int}
    (e : (#[.int .i64 K, .int .i64 vA, .int .i64 vB, .int .i64 vC, .int .i64 vN, .string vS, vL, .bool vK] : Array Value).setIfInBounds j u = #[.int .i64 K, .int .i64 vA', .int .i64 vB', .int .i64 vC', .int .i64 vN, .string vS, vL, .bool vK]) :
    RnR w K vA' vB' vC' vN vS vL lL vK (W.setCell ⟨w.heap.size, j, none⟩ u) := by
  have hne : ∀ k, k ≠ w.heap.size → (W.setCell ⟨w.heap.size, j, none⟩ u).heap[k]? = W.heap[k]? := fun k hk => Below.heap_setCell W ⟨w.heap.size, j, none⟩ u k hk
  refine ⟨h.bel.setCell (p := ⟨w.heap.size, j, none⟩) (Nat.le_refl _) _, ?_, (hne _ (by omega)).trans h.res, ?_⟩
  · have := blk_set h.o j u
    rw [this, e]
  · exact Kd.R_mono (Kd.R_move (Kd.R_bound h.r) (fun k hk => hne k (by have := hk.2.1; omega))) (fun _ _ => trivial)
theorem RnR.putL (h : RnR w K vA vB vC vN vS vL lL vK W) {u : Value} {l' : List Int} (hr : Kd.R (Kd.int .i64) 3 W (w.heap.size + 2) (fun _ => True) u l') :
    RnR w K vA vB vC vN vS u l' vK (W.setCell ⟨w.heap.size, 6, none⟩ u) := by
  have hne : ∀ k, k ≠ w.heap.size → (W.setCell ⟨w.heap.size, 6, none⟩ u).heap[k]? = W.heap[k]? := fun k hk => Below.heap_setCell W ⟨w.heap.size, 6, none⟩ u k hk
  refine ⟨h.bel.setCell (p := ⟨w.heap.size, 6, none⟩) (Nat.le_refl _) _, ?_, (hne _ (by omega)).trans h.res, ?_⟩
  · have := blk_set h.o 6 u
    rw [this]
    rfl
  · exact Kd.R_mono (Kd.R_move (Kd.R_bound hr) (fun k hk => hne k (by have := hk.2.1; omega))) (fun _ _ => trivial)
end
def hallmarkref04_Renamed.f (a0_0 a0_1 a0_2 a0_3 a0_4 : Int) (a0_5 : ByteArray) (l0_6 : List Int) (a0_7 : Bool) (l1 : List Int) : Option (Int × Int × Int × Int × Int × ByteArray × List Int × Bool) := kind_Renamed.f a0_0 a0_1 a0_2 a0_3 a0_4 a0_5 l0_6 a0_7 l1
set_option maxHeartbeats 8000000 in
set_option maxRecDepth 100000 in
theorem hallmarkref04_Renamed.calls (a0_0 : Int) (a0_1 : Int) (a0_2 : Int) (a0_3 : Int) (a0_4 : Int) (a0_5 : ByteArray) (A0_6 : Option Addr) (c0_6 : Nat) (l0_6 : List Int) (a0_7 : Bool) (A1 : Option Addr) (c1 : Nat) (l1 : List Int) (r1 : Int) (r2 : Int) (r3 : Int) (r4 : Int) (r5 : Int) (r6 : ByteArray) (r7 : List Int) (r8 : Bool) (w : World) (hr0_6 : Kd.C (Kd.int .i64) w A0_6 l0_6.length l0_6) (hc0_6 : l0_6.length ≤ c0_6) (hr1 : Kd.C (Kd.int .i64) w A1 l1.length l1) (hc1 : l1.length ≤ c1) (h : hallmarkref04_Renamed.f a0_0 a0_1 a0_2 a0_3 a0_4 a0_5 l0_6 a0_7 l1 = some (r1, r2, r3, r4, r5, r6, r7, r8)) :
    Calls Tryd.prog 23 #[.agg #[.int .i64 a0_0, .int .i64 a0_1, .int .i64 a0_2, .int .i64 a0_3, .int .i64 a0_4, .string a0_5, .slice A0_6 l0_6.length c0_6, .bool a0_7], .slice A1 l1.length c1] w fun e w' => ∃ v6_ : Value, e = .returned (.agg #[.int .i64 r1, .int .i64 r2, .int .i64 r3, .int .i64 r4, .int .i64 r5, .string r6, v6_, .bool r8]) ∧ Kd.R (Kd.int .i64) 3 w' w.heap.size (fun _ => True) v6_ r7 ∧ Below w.heap.size w w' := by
  unfold hallmarkref04_Renamed.f kind_Renamed.f at h
  split at h
  rotate_left
  · cases h
  rename_i hll
  have hp := pats a0_0
  replace h := Option.some.inj h
  have hpl : hallmarkref04_Plain.f a0_0 a0_1 a0_2 a0_3 a0_4 a0_5 l0_6 a0_7 = some (a0_0, (if hasF a0_0 65 then a0_1 else 0), (if hasF a0_0 66 then a0_2 else 0), (if hasF a0_0 67 then a0_3 else 0), (if hasF a0_0 78 then a0_4 else 0), (if hasF a0_0 83 then a0_5 else ByteArray.empty), (if hasF a0_0 76 then l0_6 else []), (if hasF a0_0 75 then a0_7 else false)) := by
    unfold hallmarkref04_Plain.f kind_plain.f; rw [if_pos (by omega)]
  obtain ⟨pN, hpN⟩ : ∃ p, (if hasF a0_0 78 = true then a0_4 else 0) = p := ⟨_, rfl⟩
  obtain ⟨pS, hpS⟩ : ∃ p, (if hasF a0_0 83 = true then a0_5 else ByteArray.empty) = p := ⟨_, rfl⟩
  obtain ⟨pK, hpK⟩ : ∃ p, (if hasF a0_0 75 = true then a0_7 else false) = p := ⟨_, rfl⟩
  rw [hpN, hpS, hpK] at hpl h
  clear hpN hpS hpK
  obtain ⟨bN, eN⟩ : ∃ b, hasF a0_0 78 = b := ⟨_, rfl⟩
  obtain ⟨bS, eS⟩ : ∃ b, hasF a0_0 83 = b := ⟨_, rfl⟩
  obtain ⟨bA, eA⟩ : ∃ b, hasF a0_0 65 = b := ⟨_, rfl⟩
  obtain ⟨bB, eB⟩ : ∃ b, hasF a0_0 66 = b := ⟨_, rfl⟩
  obtain ⟨bC, eC⟩ : ∃ b, hasF a0_0 67 = b := ⟨_, rfl⟩
  obtain ⟨bL, eL⟩ : ∃ b, hasF a0_0 76 = b := ⟨_, rfl⟩
  obtain ⟨bK, eK⟩ : ∃ b, hasF a0_0 75 = b := ⟨_, rfl⟩
  rw [eN, eS, eA, eB, eC, eL, eK] at hp
  simp only [eA, eB, eC, eL] at hpl h
  have CA : ∀ X : World, Calls Tryd.prog 29 #[.int .i64 a0_0, .int .u8 65] X fun e w' => e = .returned (.bool bA) ∧ Drawn0 X w' := fun X => has_calls a0_0 2 bA eA X
  have CB : ∀ X : World, Calls Tryd.prog 29 #[.int .i64 a0_0, .int .u8 66] X fun e w' => e = .returned (.bool bB) ∧ Drawn0 X w' := fun X => has_calls a0_0 3 bB eB X
  have CC : ∀ X : World, Calls Tryd.prog 29 #[.int .i64 a0_0, .int .u8 67] X fun e w' => e = .returned (.bool bC) ∧ Drawn0 X w' := fun X => has_calls a0_0 4 bC eC X
  have CL : ∀ X : World, Calls Tryd.prog 29 #[.int .i64 a0_0, .int .u8 76] X fun e w' => e = .returned (.bool bL) ∧ Drawn0 X w' := fun X => has_calls a0_0 5 bL eL X
  have hp4 : (bA, bB, bC, bL) ∈ [(false, false, false, false), (true, true, false, false), (true, false, false, false), (false, false, false, true), (true, true, true, false), (true, false, false, true)] := by
    revert hp
    cases bN <;> cases bS <;> cases bA <;> cases bB <;> cases bC <;> cases bL <;> cases bK <;> decide
  clear hp eN eS eA eB eC eL eK
  have HR := Aside0.mk hr0_6
  have HCap := Aside0.mk hc0_6
  have HT := Aside0.mk hr1
  have HCT := Aside0.mk hc1
  have HLL := Aside0.mk hll
  have HcA := Aside0.mk CA
  have HcB := Aside0.mk CB
  have HcC := Aside0.mk CC
  have HcL := Aside0.mk CL
  clear hr0_6 hc0_6 hr1 hc1 hll CA CB CC CL
  simp only [List.mem_cons, List.not_mem_nil, Prod.mk.injEq, or_false] at hp4
  rcases hp4 with ⟨rfl, rfl, rfl, rfl⟩ | ⟨rfl, rfl, rfl, rfl⟩ | ⟨rfl, rfl, rfl, rfl⟩ | ⟨rfl, rfl, rfl, rfl⟩ | ⟨rfl, rfl, rfl, rfl⟩ | ⟨rfl, rfl, rfl, rfl⟩
  · simp only [Bool.false_eq_true, if_true, if_false, Prod.mk.injEq] at h hpl
    obtain ⟨rfl, rfl, rfl, rfl, rfl, rfl, rfl, rfl⟩ := h
    have HPL := Aside0.mk hpl
    clear hpl
    go_enter Tryd.func23, Tryd.ntmps23
    go_wp2_with (first
      | (go_at_call 18; refine Aside0.out ?_))
    refine ⟨?_⟩
    obtain ⟨Wa, hWa⟩ : ∃ Wa, (w.alloc (.cells #[.int .i64 a0_0, .int .i64 a0_1, .int .i64 a0_2, .int .i64 a0_3, .int .i64 a0_4, .string a0_5, .slice A0_6 l0_6.length c0_6, .bool a0_7] 33)).alloc (.cells #[.int .i64 0, .int .i64 0, .int .i64 0, .int .i64 0, .int .i64 0, .string (⟨#[]⟩ : ByteArray), .slice none 0 0, .bool false] 33) = Wa := ⟨_, rfl⟩
    have hBa : Below w.heap.size w Wa := by rw [← hWa]; exact below_alloc (below_alloc (Below.refl _ _) _) _
    have hsa : Wa.heap.size = w.heap.size + 2 := by rw [← hWa]; simp
    have hoa : Wa.heap[w.heap.size]? = some (.cells #[.int .i64 a0_0, .int .i64 a0_1, .int .i64 a0_2, .int .i64 a0_3, .int .i64 a0_4, .string a0_5, .slice A0_6 l0_6.length c0_6, .bool a0_7] 33 (0, 0)) := by rw [← hWa, heap_alloc_old _ _ (by simp)]; exact heap_alloc_new w _
    have hra : Wa.heap[w.heap.size + 1]? = some (.cells #[.int .i64 0, .int .i64 0, .int .i64 0, .int .i64 0, .int .i64 0, .string (⟨#[]⟩ : ByteArray), .slice none 0 0, .bool false] 33 (0, 0)) := by
      have := heap_alloc_new (w.alloc (.cells #[.int .i64 a0_0, .int .i64 a0_1, .int .i64 a0_2, .int .i64 a0_3, .int .i64 a0_4, .string a0_5, .slice A0_6 l0_6.length c0_6, .bool a0_7] 33)) (.cells #[.int .i64 0, .int .i64 0, .int .i64 0, .int .i64 0, .int .i64 0, .string (⟨#[]⟩ : ByteArray), .slice none 0 0, .bool false] 33)
      rw [World.size_alloc] at this
      rw [← hWa]; exact this
    rw [hWa]
    refine (hallmarkref04_Plain.calls _ _ _ _ _ _ A0_6 c0_6 l0_6 _ _ _ _ _ _ _ _ _ Wa (Kd.C_below HR.out hBa) HCap.out HPL.out).mono ?_
    rintro e w1 ⟨v6, rfl, hR, hB⟩
    obtain ⟨A3, c3, rfl⟩ := Kd.R_slice hR
    have hcap3 := (Kd.R_reads' hR).2.1
    have ho1 := (hB.block w.heap.size (by omega)).trans hoa
    have hq1 := (hB.block (w.heap.size + 1) (by omega)).trans hra
    have hB1 := below_step hBa hB
    have z1 := blk_frozen ho1
    have y1 := blk_cell ho1
    have HP0 : Aside0 (RnR w a0_0 0 0 0 pN pS (.slice A3 0 c3) ([] : List Int) pK ((((((((w1.setCell ⟨w.heap.size, 0, none⟩ (.int .i64 a0_0)).setCell ⟨w.heap.size, 1, none⟩ (.int .i64 0)).setCell ⟨w.heap.size, 2, none⟩ (.int .i64 0)).setCell ⟨w.heap.size, 3, none⟩ (.int .i64 0)).setCell ⟨w.heap.size, 4, none⟩ (.int .i64 pN)).setCell ⟨w.heap.size, 5, none⟩ (.string pS)).setCell ⟨w.heap.size, 6, none⟩ (.slice A3 0 c3)).setCell ⟨w.heap.size, 7, none⟩ (.bool pK))) := by
      have hne : ∀ (V : World) (i j : Nat) (u : Value), j ≠ w.heap.size → (V.setCell ⟨w.heap.size, i, none⟩ u).heap[j]? = V.heap[j]? := fun V i j u hj => Below.heap_setCell V ⟨w.heap.size, i, none⟩ u j hj
      have hBs : ∀ (V : World) (i : Nat) (u : Value), Below w.heap.size w V → Below w.heap.size w (V.setCell ⟨w.heap.size, i, none⟩ u) := fun V i u h => h.setCell (p := ⟨w.heap.size, i, none⟩) (Nat.le_refl _) _
      refine ⟨⟨hBs _ _ _ (hBs _ _ _ (hBs _ _ _ (hBs _ _ _ (hBs _ _ _ (hBs _ _ _ (hBs _ _ _ (hBs _ _ _ hB1))))))), ?_, ?_, ?_⟩⟩
      · have h1 := blk_set (blk_set (blk_set (blk_set (blk_set (blk_set (blk_set (blk_set ho1 0 (.int .i64 a0_0)) 1 (.int .i64 0)) 2 (.int .i64 0)) 3 (.int .i64 0)) 4 (.int .i64 pN)) 5 (.string pS)) 6 (.slice A3 0 c3)) 7 (.bool pK)
        rw [h1]; first | done | rfl | simp
      · simp only [hne _ _ _ _ (show w.heap.size + 1 ≠ w.heap.size by omega)]; exact hq1
      · have := Kd.R_bound hR
        rw [hsa] at this
        exact Kd.R_mono (Kd.R_move this (fun k hk => by simp only [hne _ _ _ _ (show k ≠ w.heap.size by have := hk.2.1; omega)])) (fun _ _ => trivial)
    have HCap3 := Aside0.mk hcap3
    clear hR hB hoa hra ho1 hq1 hB1 hBa hsa hWa hcap3
    have qk0 := blk_cell HP0.out.o 0
    go_wp2_with (first
      | (go_at_call 29; with_reducible refine (HcA.out _).mono ?_; rintro e XA ⟨rfl, hd⟩; have PA := Aside0.mk (RnR.below (HP0.out) hd.below); clear hd; have qkA := blk_cell PA.out.o 0)
      | (go_at_call 29; with_reducible refine (HcB.out _).mono ?_; rintro e XB ⟨rfl, hd⟩; have PB := Aside0.mk (RnR.below (PA.out) hd.below); clear hd; have qkB := blk_cell PB.out.o 0)
      | (go_at_call 29; with_reducible refine (HcC.out _).mono ?_; rintro e XC ⟨rfl, hd⟩; have PC := Aside0.mk (RnR.below (PB.out) hd.below); clear hd; have qkC := blk_cell PC.out.o 0)
      | (go_at_call 29; with_reducible refine (HcL.out _).mono ?_; rintro e XL ⟨rfl, hd⟩; have PL := Aside0.mk (RnR.below (PC.out) hd.below); clear hd; have qkL := blk_cell PL.out.o 0; have hz := blk_frozen PL.out.res; have hpp := blk_cell PL.out.res; have hq := blk_cell PL.out.o))
    have hne : ∀ (V : World) (i j : Nat) (u : Value), j ≠ w.heap.size + 1 → (V.setCell ⟨w.heap.size + 1, i, none⟩ u).heap[j]? = V.heap[j]? := fun V i j u hj => Below.heap_setCell V ⟨w.heap.size + 1, i, none⟩ u j hj
    have hBs : ∀ (V : World) (i : Nat) (u : Value), Below w.heap.size w V → Below w.heap.size w (V.setCell ⟨w.heap.size + 1, i, none⟩ u) := fun V i u h => h.setCell (p := ⟨w.heap.size + 1, i, none⟩) (by show w.heap.size ≤ w.heap.size + 1; omega) _
    refine bodyPost_ret (results_cell_row rfl _ _ (w.heap.size + 1) 33 #[.int .i64 a0_0, .int .i64 0, .int .i64 0, .int .i64 0, .int .i64 pN, .string pS, .slice A3 0 c3, .bool pK] (0, 0) _ rfl ?_ Tryd.underlying33 rfl (by kernel_rfl)) rfl ⟨(.slice A3 0 c3), rfl, ?_, ?_⟩
    · have h1 := blk_set (blk_set (blk_set (blk_set (blk_set (blk_set (blk_set (blk_set (PL.out.res) 0 (.int .i64 a0_0)) 1 (.int .i64 0)) 2 (.int .i64 0)) 3 (.int .i64 0)) 4 (.int .i64 pN)) 5 (.string pS)) 6 (.slice A3 0 c3)) 7 (.bool pK)
      rw [h1]
      first | done | rfl | simp
    · refine Kd.R_mono (Kd.R_lower (Kd.R_move (Kd.R_bound PL.out.r) (fun k hk => ?_)) (by omega)) (fun _ _ => trivial)
      have hk1 : k ≠ w.heap.size + 1 := by
        have := hk.2.1
        omega
      simp only [hne _ _ _ _ hk1]
    · exact hBs _ _ _ (hBs _ _ _ (hBs _ _ _ (hBs _ _ _ (hBs _ _ _ (hBs _ _ _ (hBs _ _ _ (hBs _ _ _ PL.out.bel)))))))
  · simp only [Bool.false_eq_true, if_true, if_false, Prod.mk.injEq] at h hpl
    obtain ⟨rfl, rfl, rfl, rfl, rfl, rfl, rfl, rfl⟩ := h
    have HPL := Aside0.mk hpl
    clear hpl
    go_enter Tryd.func23, Tryd.ntmps23
    go_wp2_with (first
      | (go_at_call 18; refine Aside0.out ?_))
    refine ⟨?_⟩
    obtain ⟨Wa, hWa⟩ : ∃ Wa, (w.alloc (.cells #[.int .i64 a0_0, .int .i64 a0_1, .int .i64 a0_2, .int .i64 a0_3, .int .i64 a0_4, .string a0_5, .slice A0_6 l0_6.length c0_6, .bool a0_7] 33)).alloc (.cells #[.int .i64 0, .int .i64 0, .int .i64 0, .int .i64 0, .int .i64 0, .string (⟨#[]⟩ : ByteArray), .slice none 0 0, .bool false] 33) = Wa := ⟨_, rfl⟩
    have hBa : Below w.heap.size w Wa := by rw [← hWa]; exact below_alloc (below_alloc (Below.refl _ _) _) _
    have hsa : Wa.heap.size = w.heap.size + 2 := by rw [← hWa]; simp
    have hoa : Wa.heap[w.heap.size]? = some (.cells #[.int .i64 a0_0, .int .i64 a0_1, .int .i64 a0_2, .int .i64 a0_3, .int .i64 a0_4, .string a0_5, .slice A0_6 l0_6.length c0_6, .bool a0_7] 33 (0, 0)) := by rw [← hWa, heap_alloc_old _ _ (by simp)]; exact heap_alloc_new w _
    have hra : Wa.heap[w.heap.size + 1]? = some (.cells #[.int .i64 0, .int .i64 0, .int .i64 0, .int .i64 0, .int .i64 0, .string (⟨#[]⟩ : ByteArray), .slice none 0 0, .bool false] 33 (0, 0)) := by
      have := heap_alloc_new (w.alloc (.cells #[.int .i64 a0_0, .int .i64 a0_1, .int .i64 a0_2, .int .i64 a0_3, .int .i64 a0_4, .string a0_5, .slice A0_6 l0_6.length c0_6, .bool a0_7] 33)) (.cells #[.int .i64 0, .int .i64 0, .int .i64 0, .int .i64 0, .int .i64 0, .string (⟨#[]⟩ : ByteArray), .slice none 0 0, .bool false] 33)
      rw [World.size_alloc] at this
      rw [← hWa]; exact this
    rw [hWa]
    refine (hallmarkref04_Plain.calls _ _ _ _ _ _ A0_6 c0_6 l0_6 _ _ _ _ _ _ _ _ _ Wa (Kd.C_below HR.out hBa) HCap.out HPL.out).mono ?_
    rintro e w1 ⟨v6, rfl, hR, hB⟩
    obtain ⟨A3, c3, rfl⟩ := Kd.R_slice hR
    have hcap3 := (Kd.R_reads' hR).2.1
    have ho1 := (hB.block w.heap.size (by omega)).trans hoa
    have hq1 := (hB.block (w.heap.size + 1) (by omega)).trans hra
    have hB1 := below_step hBa hB
    have z1 := blk_frozen ho1
    have y1 := blk_cell ho1
    have HP0 : Aside0 (RnR w a0_0 a0_1 a0_2 0 pN pS (.slice A3 0 c3) ([] : List Int) pK ((((((((w1.setCell ⟨w.heap.size, 0, none⟩ (.int .i64 a0_0)).setCell ⟨w.heap.size, 1, none⟩ (.int .i64 a0_1)).setCell ⟨w.heap.size, 2, none⟩ (.int .i64 a0_2)).setCell ⟨w.heap.size, 3, none⟩ (.int .i64 0)).setCell ⟨w.heap.size, 4, none⟩ (.int .i64 pN)).setCell ⟨w.heap.size, 5, none⟩ (.string pS)).setCell ⟨w.heap.size, 6, none⟩ (.slice A3 0 c3)).setCell ⟨w.heap.size, 7, none⟩ (.bool pK))) := by
      have hne : ∀ (V : World) (i j : Nat) (u : Value), j ≠ w.heap.size → (V.setCell ⟨w.heap.size, i, none⟩ u).heap[j]? = V.heap[j]? := fun V i j u hj => Below.heap_setCell V ⟨w.heap.size, i, none⟩ u j hj
      have hBs : ∀ (V : World) (i : Nat) (u : Value), Below w.heap.size w V → Below w.heap.size w (V.setCell ⟨w.heap.size, i, none⟩ u) := fun V i u h => h.setCell (p := ⟨w.heap.size, i, none⟩) (Nat.le_refl _) _
      refine ⟨⟨hBs _ _ _ (hBs _ _ _ (hBs _ _ _ (hBs _ _ _ (hBs _ _ _ (hBs _ _ _ (hBs _ _ _ (hBs _ _ _ hB1))))))), ?_, ?_, ?_⟩⟩
      · have h1 := blk_set (blk_set (blk_set (blk_set (blk_set (blk_set (blk_set (blk_set ho1 0 (.int .i64 a0_0)) 1 (.int .i64 a0_1)) 2 (.int .i64 a0_2)) 3 (.int .i64 0)) 4 (.int .i64 pN)) 5 (.string pS)) 6 (.slice A3 0 c3)) 7 (.bool pK)
        rw [h1]; first | done | rfl | simp
      · simp only [hne _ _ _ _ (show w.heap.size + 1 ≠ w.heap.size by omega)]; exact hq1
      · have := Kd.R_bound hR
        rw [hsa] at this
        exact Kd.R_mono (Kd.R_move this (fun k hk => by simp only [hne _ _ _ _ (show k ≠ w.heap.size by have := hk.2.1; omega)])) (fun _ _ => trivial)
    have HCap3 := Aside0.mk hcap3
    clear hR hB hoa hra ho1 hq1 hB1 hBa hsa hWa hcap3
    have qk0 := blk_cell HP0.out.o 0
    go_wp2_with (first
      | (go_at_call 29; with_reducible refine (HcA.out _).mono ?_; rintro e XA ⟨rfl, hd⟩; have PA := Aside0.mk (RnR.below (HP0.out) hd.below); clear hd; have qsA := blk_cell PA.out.o 1)
      | (go_at_call 32; with_reducible refine (hallmarkref04_To.calls a0_1 A1 c1 l1 (nm l1 a0_1) _ (Kd.C_below HT.out PA.out.bel) HCT.out (ref_to_is _ _)).mono ?_; rintro e YA ⟨rfl, hd⟩; have TA := Aside0.mk (RnR.below PA.out hd.below); clear hd; have qcA := blk_cell TA.out.o 1; have qfA := blk_frozen TA.out.o 1; have PA' := Aside0.mk (RnR.put (vA' := (nm l1 a0_1)) (vB' := a0_2) (vC' := 0) TA.out 1 (.int .i64 (nm l1 a0_1)) rfl); have qkA := blk_cell PA'.out.o 0)
      | (go_at_call 29; with_reducible refine (HcB.out _).mono ?_; rintro e XB ⟨rfl, hd⟩; have PB := Aside0.mk (RnR.below (PA'.out) hd.below); clear hd; have qsB := blk_cell PB.out.o 2)
      | (go_at_call 32; with_reducible refine (hallmarkref04_To.calls a0_2 A1 c1 l1 (nm l1 a0_2) _ (Kd.C_below HT.out PB.out.bel) HCT.out (ref_to_is _ _)).mono ?_; rintro e YB ⟨rfl, hd⟩; have TB := Aside0.mk (RnR.below PB.out hd.below); clear hd; have qcB := blk_cell TB.out.o 2; have qfB := blk_frozen TB.out.o 2; have PB' := Aside0.mk (RnR.put (vA' := (nm l1 a0_1)) (vB' := (nm l1 a0_2)) (vC' := 0) TB.out 2 (.int .i64 (nm l1 a0_2)) rfl); have qkB := blk_cell PB'.out.o 0)
      | (go_at_call 29; with_reducible refine (HcC.out _).mono ?_; rintro e XC ⟨rfl, hd⟩; have PC := Aside0.mk (RnR.below (PB'.out) hd.below); clear hd; have qkC := blk_cell PC.out.o 0)
      | (go_at_call 29; with_reducible refine (HcL.out _).mono ?_; rintro e XL ⟨rfl, hd⟩; have PL := Aside0.mk (RnR.below (PC.out) hd.below); clear hd; have qkL := blk_cell PL.out.o 0; have hz := blk_frozen PL.out.res; have hpp := blk_cell PL.out.res; have hq := blk_cell PL.out.o))
    have hne : ∀ (V : World) (i j : Nat) (u : Value), j ≠ w.heap.size + 1 → (V.setCell ⟨w.heap.size + 1, i, none⟩ u).heap[j]? = V.heap[j]? := fun V i j u hj => Below.heap_setCell V ⟨w.heap.size + 1, i, none⟩ u j hj
    have hBs : ∀ (V : World) (i : Nat) (u : Value), Below w.heap.size w V → Below w.heap.size w (V.setCell ⟨w.heap.size + 1, i, none⟩ u) := fun V i u h => h.setCell (p := ⟨w.heap.size + 1, i, none⟩) (by show w.heap.size ≤ w.heap.size + 1; omega) _
    refine bodyPost_ret (results_cell_row rfl _ _ (w.heap.size + 1) 33 #[.int .i64 a0_0, .int .i64 (nm l1 a0_1), .int .i64 (nm l1 a0_2), .int .i64 0, .int .i64 pN, .string pS, .slice A3 0 c3, .bool pK] (0, 0) _ rfl ?_ Tryd.underlying33 rfl (by kernel_rfl)) rfl ⟨(.slice A3 0 c3), rfl, ?_, ?_⟩
    · have h1 := blk_set (blk_set (blk_set (blk_set (blk_set (blk_set (blk_set (blk_set (PL.out.res) 0 (.int .i64 a0_0)) 1 (.int .i64 (nm l1 a0_1))) 2 (.int .i64 (nm l1 a0_2))) 3 (.int .i64 0)) 4 (.int .i64 pN)) 5 (.string pS)) 6 (.slice A3 0 c3)) 7 (.bool pK)
      rw [h1]
      first | done | rfl | simp
    · refine Kd.R_mono (Kd.R_lower (Kd.R_move (Kd.R_bound PL.out.r) (fun k hk => ?_)) (by omega)) (fun _ _ => trivial)
      have hk1 : k ≠ w.heap.size + 1 := by
        have := hk.2.1
        omega
      simp only [hne _ _ _ _ hk1]
    · exact hBs _ _ _ (hBs _ _ _ (hBs _ _ _ (hBs _ _ _ (hBs _ _ _ (hBs _ _ _ (hBs _ _ _ (hBs _ _ _ PL.out.bel)))))))
  · simp only [Bool.false_eq_true, if_true, if_false, Prod.mk.injEq] at h hpl
    obtain ⟨rfl, rfl, rfl, rfl, rfl, rfl, rfl, rfl⟩ := h
    have HPL := Aside0.mk hpl
    clear hpl
    go_enter Tryd.func23, Tryd.ntmps23
    go_wp2_with (first
      | (go_at_call 18; refine Aside0.out ?_))
    refine ⟨?_⟩
    obtain ⟨Wa, hWa⟩ : ∃ Wa, (w.alloc (.cells #[.int .i64 a0_0, .int .i64 a0_1, .int .i64 a0_2, .int .i64 a0_3, .int .i64 a0_4, .string a0_5, .slice A0_6 l0_6.length c0_6, .bool a0_7] 33)).alloc (.cells #[.int .i64 0, .int .i64 0, .int .i64 0, .int .i64 0, .int .i64 0, .string (⟨#[]⟩ : ByteArray), .slice none 0 0, .bool false] 33) = Wa := ⟨_, rfl⟩
    have hBa : Below w.heap.size w Wa := by rw [← hWa]; exact below_alloc (below_alloc (Below.refl _ _) _) _
    have hsa : Wa.heap.size = w.heap.size + 2 := by rw [← hWa]; simp
    have hoa : Wa.heap[w.heap.size]? = some (.cells #[.int .i64 a0_0, .int .i64 a0_1, .int .i64 a0_2, .int .i64 a0_3, .int .i64 a0_4, .string a0_5, .slice A0_6 l0_6.length c0_6, .bool a0_7] 33 (0, 0)) := by rw [← hWa, heap_alloc_old _ _ (by simp)]; exact heap_alloc_new w _
    have hra : Wa.heap[w.heap.size + 1]? = some (.cells #[.int .i64 0, .int .i64 0, .int .i64 0, .int .i64 0, .int .i64 0, .string (⟨#[]⟩ : ByteArray), .slice none 0 0, .bool false] 33 (0, 0)) := by
      have := heap_alloc_new (w.alloc (.cells #[.int .i64 a0_0, .int .i64 a0_1, .int .i64 a0_2, .int .i64 a0_3, .int .i64 a0_4, .string a0_5, .slice A0_6 l0_6.length c0_6, .bool a0_7] 33)) (.cells #[.int .i64 0, .int .i64 0, .int .i64 0, .int .i64 0, .int .i64 0, .string (⟨#[]⟩ : ByteArray), .slice none 0 0, .bool false] 33)
      rw [World.size_alloc] at this
      rw [← hWa]; exact this
    rw [hWa]
    refine (hallmarkref04_Plain.calls _ _ _ _ _ _ A0_6 c0_6 l0_6 _ _ _ _ _ _ _ _ _ Wa (Kd.C_below HR.out hBa) HCap.out HPL.out).mono ?_
    rintro e w1 ⟨v6, rfl, hR, hB⟩
    obtain ⟨A3, c3, rfl⟩ := Kd.R_slice hR
    have hcap3 := (Kd.R_reads' hR).2.1
    have ho1 := (hB.block w.heap.size (by omega)).trans hoa
    have hq1 := (hB.block (w.heap.size + 1) (by omega)).trans hra
    have hB1 := below_step hBa hB
    have z1 := blk_frozen ho1
    have y1 := blk_cell ho1
    have HP0 : Aside0 (RnR w a0_0 a0_1 0 0 pN pS (.slice A3 0 c3) ([] : List Int) pK ((((((((w1.setCell ⟨w.heap.size, 0, none⟩ (.int .i64 a0_0)).setCell ⟨w.heap.size, 1, none⟩ (.int .i64 a0_1)).setCell ⟨w.heap.size, 2, none⟩ (.int .i64 0)).setCell ⟨w.heap.size, 3, none⟩ (.int .i64 0)).setCell ⟨w.heap.size, 4, none⟩ (.int .i64 pN)).setCell ⟨w.heap.size, 5, none⟩ (.string pS)).setCell ⟨w.heap.size, 6, none⟩ (.slice A3 0 c3)).setCell ⟨w.heap.size, 7, none⟩ (.bool pK))) := by
      have hne : ∀ (V : World) (i j : Nat) (u : Value), j ≠ w.heap.size → (V.setCell ⟨w.heap.size, i, none⟩ u).heap[j]? = V.heap[j]? := fun V i j u hj => Below.heap_setCell V ⟨w.heap.size, i, none⟩ u j hj
      have hBs : ∀ (V : World) (i : Nat) (u : Value), Below w.heap.size w V → Below w.heap.size w (V.setCell ⟨w.heap.size, i, none⟩ u) := fun V i u h => h.setCell (p := ⟨w.heap.size, i, none⟩) (Nat.le_refl _) _
      refine ⟨⟨hBs _ _ _ (hBs _ _ _ (hBs _ _ _ (hBs _ _ _ (hBs _ _ _ (hBs _ _ _ (hBs _ _ _ (hBs _ _ _ hB1))))))), ?_, ?_, ?_⟩⟩
      · have h1 := blk_set (blk_set (blk_set (blk_set (blk_set (blk_set (blk_set (blk_set ho1 0 (.int .i64 a0_0)) 1 (.int .i64 a0_1)) 2 (.int .i64 0)) 3 (.int .i64 0)) 4 (.int .i64 pN)) 5 (.string pS)) 6 (.slice A3 0 c3)) 7 (.bool pK)
        rw [h1]; first | done | rfl | simp
      · simp only [hne _ _ _ _ (show w.heap.size + 1 ≠ w.heap.size by omega)]; exact hq1
      · have := Kd.R_bound hR
        rw [hsa] at this
        exact Kd.R_mono (Kd.R_move this (fun k hk => by simp only [hne _ _ _ _ (show k ≠ w.heap.size by have := hk.2.1; omega)])) (fun _ _ => trivial)
    have HCap3 := Aside0.mk hcap3
    clear hR hB hoa hra ho1 hq1 hB1 hBa hsa hWa hcap3
    have qk0 := blk_cell HP0.out.o 0
    go_wp2_with (first
      | (go_at_call 29; with_reducible refine (HcA.out _).mono ?_; rintro e XA ⟨rfl, hd⟩; have PA := Aside0.mk (RnR.below (HP0.out) hd.below); clear hd; have qsA := blk_cell PA.out.o 1)
      | (go_at_call 32; with_reducible refine (hallmarkref04_To.calls a0_1 A1 c1 l1 (nm l1 a0_1) _ (Kd.C_below HT.out PA.out.bel) HCT.out (ref_to_is _ _)).mono ?_; rintro e YA ⟨rfl, hd⟩; have TA := Aside0.mk (RnR.below PA.out hd.below); clear hd; have qcA := blk_cell TA.out.o 1; have qfA := blk_frozen TA.out.o 1; have PA' := Aside0.mk (RnR.put (vA' := (nm l1 a0_1)) (vB' := 0) (vC' := 0) TA.out 1 (.int .i64 (nm l1 a0_1)) rfl); have qkA := blk_cell PA'.out.o 0)
      | (go_at_call 29; with_reducible refine (HcB.out _).mono ?_; rintro e XB ⟨rfl, hd⟩; have PB := Aside0.mk (RnR.below (PA'.out) hd.below); clear hd; have qkB := blk_cell PB.out.o 0)
      | (go_at_call 29; with_reducible refine (HcC.out _).mono ?_; rintro e XC ⟨rfl, hd⟩; have PC := Aside0.mk (RnR.below (PB.out) hd.below); clear hd; have qkC := blk_cell PC.out.o 0)
      | (go_at_call 29; with_reducible refine (HcL.out _).mono ?_; rintro e XL ⟨rfl, hd⟩; have PL := Aside0.mk (RnR.below (PC.out) hd.below); clear hd; have qkL := blk_cell PL.out.o 0; have hz := blk_frozen PL.out.res; have hpp := blk_cell PL.out.res; have hq := blk_cell PL.out.o))
    have hne : ∀ (V : World) (i j : Nat) (u : Value), j ≠ w.heap.size + 1 → (V.setCell ⟨w.heap.size + 1, i, none⟩ u).heap[j]? = V.heap[j]? := fun V i j u hj => Below.heap_setCell V ⟨w.heap.size + 1, i, none⟩ u j hj
    have hBs : ∀ (V : World) (i : Nat) (u : Value), Below w.heap.size w V → Below w.heap.size w (V.setCell ⟨w.heap.size + 1, i, none⟩ u) := fun V i u h => h.setCell (p := ⟨w.heap.size + 1, i, none⟩) (by show w.heap.size ≤ w.heap.size + 1; omega) _
    refine bodyPost_ret (results_cell_row rfl _ _ (w.heap.size + 1) 33 #[.int .i64 a0_0, .int .i64 (nm l1 a0_1), .int .i64 0, .int .i64 0, .int .i64 pN, .string pS, .slice A3 0 c3, .bool pK] (0, 0) _ rfl ?_ Tryd.underlying33 rfl (by kernel_rfl)) rfl ⟨(.slice A3 0 c3), rfl, ?_, ?_⟩
    · have h1 := blk_set (blk_set (blk_set (blk_set (blk_set (blk_set (blk_set (blk_set (PL.out.res) 0 (.int .i64 a0_0)) 1 (.int .i64 (nm l1 a0_1))) 2 (.int .i64 0)) 3 (.int .i64 0)) 4 (.int .i64 pN)) 5 (.string pS)) 6 (.slice A3 0 c3)) 7 (.bool pK)
      rw [h1]
      first | done | rfl | simp
    · refine Kd.R_mono (Kd.R_lower (Kd.R_move (Kd.R_bound PL.out.r) (fun k hk => ?_)) (by omega)) (fun _ _ => trivial)
      have hk1 : k ≠ w.heap.size + 1 := by
        have := hk.2.1
        omega
      simp only [hne _ _ _ _ hk1]
    · exact hBs _ _ _ (hBs _ _ _ (hBs _ _ _ (hBs _ _ _ (hBs _ _ _ (hBs _ _ _ (hBs _ _ _ (hBs _ _ _ PL.out.bel)))))))
  · simp only [Bool.false_eq_true, if_true, if_false, Prod.mk.injEq] at h hpl
    obtain ⟨lM, hlM⟩ : ∃ lM, l0_6.map (nm l1) = lM := ⟨_, rfl⟩
    rw [hlM] at h
    have HlM := Aside0.mk hlM
    clear hlM
    obtain ⟨rfl, rfl, rfl, rfl, rfl, rfl, rfl, rfl⟩ := h
    have HPL := Aside0.mk hpl
    clear hpl
    go_enter Tryd.func23, Tryd.ntmps23
    go_wp2_with (first
      | (go_at_call 18; refine Aside0.out ?_))
    refine ⟨?_⟩
    obtain ⟨Wa, hWa⟩ : ∃ Wa, (w.alloc (.cells #[.int .i64 a0_0, .int .i64 a0_1, .int .i64 a0_2, .int .i64 a0_3, .int .i64 a0_4, .string a0_5, .slice A0_6 l0_6.length c0_6, .bool a0_7] 33)).alloc (.cells #[.int .i64 0, .int .i64 0, .int .i64 0, .int .i64 0, .int .i64 0, .string (⟨#[]⟩ : ByteArray), .slice none 0 0, .bool false] 33) = Wa := ⟨_, rfl⟩
    have hBa : Below w.heap.size w Wa := by rw [← hWa]; exact below_alloc (below_alloc (Below.refl _ _) _) _
    have hsa : Wa.heap.size = w.heap.size + 2 := by rw [← hWa]; simp
    have hoa : Wa.heap[w.heap.size]? = some (.cells #[.int .i64 a0_0, .int .i64 a0_1, .int .i64 a0_2, .int .i64 a0_3, .int .i64 a0_4, .string a0_5, .slice A0_6 l0_6.length c0_6, .bool a0_7] 33 (0, 0)) := by rw [← hWa, heap_alloc_old _ _ (by simp)]; exact heap_alloc_new w _
    have hra : Wa.heap[w.heap.size + 1]? = some (.cells #[.int .i64 0, .int .i64 0, .int .i64 0, .int .i64 0, .int .i64 0, .string (⟨#[]⟩ : ByteArray), .slice none 0 0, .bool false] 33 (0, 0)) := by
      have := heap_alloc_new (w.alloc (.cells #[.int .i64 a0_0, .int .i64 a0_1, .int .i64 a0_2, .int .i64 a0_3, .int .i64 a0_4, .string a0_5, .slice A0_6 l0_6.length c0_6, .bool a0_7] 33)) (.cells #[.int .i64 0, .int .i64 0, .int .i64 0, .int .i64 0, .int .i64 0, .string (⟨#[]⟩ : ByteArray), .slice none 0 0, .bool false] 33)
      rw [World.size_alloc] at this
      rw [← hWa]; exact this
    rw [hWa]
    refine (hallmarkref04_Plain.calls _ _ _ _ _ _ A0_6 c0_6 l0_6 _ _ _ _ _ _ _ _ _ Wa (Kd.C_below HR.out hBa) HCap.out HPL.out).mono ?_
    rintro e w1 ⟨v6, rfl, hR, hB⟩
    obtain ⟨A3, c3, rfl⟩ := Kd.R_slice hR
    have hcap3 := (Kd.R_reads' hR).2.1
    have ho1 := (hB.block w.heap.size (by omega)).trans hoa
    have hq1 := (hB.block (w.heap.size + 1) (by omega)).trans hra
    have hB1 := below_step hBa hB
    have z1 := blk_frozen ho1
    have y1 := blk_cell ho1
    have HP0 : Aside0 (RnR w a0_0 0 0 0 pN pS (.slice A3 l0_6.length c3) l0_6 pK ((((((((w1.setCell ⟨w.heap.size, 0, none⟩ (.int .i64 a0_0)).setCell ⟨w.heap.size, 1, none⟩ (.int .i64 0)).setCell ⟨w.heap.size, 2, none⟩ (.int .i64 0)).setCell ⟨w.heap.size, 3, none⟩ (.int .i64 0)).setCell ⟨w.heap.size, 4, none⟩ (.int .i64 pN)).setCell ⟨w.heap.size, 5, none⟩ (.string pS)).setCell ⟨w.heap.size, 6, none⟩ (.slice A3 l0_6.length c3)).setCell ⟨w.heap.size, 7, none⟩ (.bool pK))) := by
      have hne : ∀ (V : World) (i j : Nat) (u : Value), j ≠ w.heap.size → (V.setCell ⟨w.heap.size, i, none⟩ u).heap[j]? = V.heap[j]? := fun V i j u hj => Below.heap_setCell V ⟨w.heap.size, i, none⟩ u j hj
      have hBs : ∀ (V : World) (i : Nat) (u : Value), Below w.heap.size w V → Below w.heap.size w (V.setCell ⟨w.heap.size, i, none⟩ u) := fun V i u h => h.setCell (p := ⟨w.heap.size, i, none⟩) (Nat.le_refl _) _
      refine ⟨⟨hBs _ _ _ (hBs _ _ _ (hBs _ _ _ (hBs _ _ _ (hBs _ _ _ (hBs _ _ _ (hBs _ _ _ (hBs _ _ _ hB1))))))), ?_, ?_, ?_⟩⟩
      · have h1 := blk_set (blk_set (blk_set (blk_set (blk_set (blk_set (blk_set (blk_set ho1 0 (.int .i64 a0_0)) 1 (.int .i64 0)) 2 (.int .i64 0)) 3 (.int .i64 0)) 4 (.int .i64 pN)) 5 (.string pS)) 6 (.slice A3 l0_6.length c3)) 7 (.bool pK)
        rw [h1]; first | done | rfl | simp
      · simp only [hne _ _ _ _ (show w.heap.size + 1 ≠ w.heap.size by omega)]; exact hq1
      · have := Kd.R_bound hR
        rw [hsa] at this
        exact Kd.R_mono (Kd.R_move this (fun k hk => by simp only [hne _ _ _ _ (show k ≠ w.heap.size by have := hk.2.1; omega)])) (fun _ _ => trivial)
    have HCap3 := Aside0.mk hcap3
    clear hR hB hoa hra ho1 hq1 hB1 hBa hsa hWa hcap3
    have qk0 := blk_cell HP0.out.o 0
    go_wp2_with (first
      | (go_at_call 29; with_reducible refine (HcA.out _).mono ?_; rintro e XA ⟨rfl, hd⟩; have PA := Aside0.mk (RnR.below (HP0.out) hd.below); clear hd; have qkA := blk_cell PA.out.o 0)
      | (go_at_call 29; with_reducible refine (HcB.out _).mono ?_; rintro e XB ⟨rfl, hd⟩; have PB := Aside0.mk (RnR.below (PA.out) hd.below); clear hd; have qkB := blk_cell PB.out.o 0)
      | (go_at_call 29; with_reducible refine (HcC.out _).mono ?_; rintro e XC ⟨rfl, hd⟩; have PC := Aside0.mk (RnR.below (PB.out) hd.below); clear hd; have qkC := blk_cell PC.out.o 0)
      | (go_at_call 29; with_reducible refine (HcL.out _).mono ?_; rintro e XL ⟨rfl, hd⟩; have PL := Aside0.mk (RnR.below (PC.out) hd.below); clear hd; have qsL := blk_cell PL.out.o 6)
      | (go_at_call 33; refine Aside0.out ?_))
    refine ⟨?_⟩
    obtain ⟨ka, hka⟩ := Ev.rounds (ref_all_ev l0_6 l1 HLL.out.1)
    rw [HlM.out] at hka
    refine (hallmarkref04_All.calls ka A3 c3 l0_6 A1 c1 l1 lM _ (Kd.R_reads' PL.out.r).2.2 HCap3.out (Kd.C_below HT.out PL.out.bel) HCT.out hka).mono ?_
    rintro e Y ⟨v9, rfl, hR9, hb9⟩
    obtain ⟨A9, c9, rfl⟩ := Kd.R_slice hR9
    have TL := Aside0.mk (RnR.below PL.out hb9)
    have HO9 := Aside0.mk (Kd.R_mono (Kd.R_lower hR9 (show w.heap.size + 2 ≤ XL.heap.size by have := PL.out.lt; omega)) (fun _ _ => trivial))
    have PL' := Aside0.mk (RnR.putL TL.out HO9.out)
    have qcL := blk_cell TL.out.o 6
    have qfL := blk_frozen TL.out.o 6
    have hz := blk_frozen PL'.out.res
    have hpp := blk_cell PL'.out.res
    have hq := blk_cell PL'.out.o
    clear hka hR9 hb9
    go_wp2
    have hne : ∀ (V : World) (i j : Nat) (u : Value), j ≠ w.heap.size + 1 → (V.setCell ⟨w.heap.size + 1, i, none⟩ u).heap[j]? = V.heap[j]? := fun V i j u hj => Below.heap_setCell V ⟨w.heap.size + 1, i, none⟩ u j hj
    have hBs : ∀ (V : World) (i : Nat) (u : Value), Below w.heap.size w V → Below w.heap.size w (V.setCell ⟨w.heap.size + 1, i, none⟩ u) := fun V i u h => h.setCell (p := ⟨w.heap.size + 1, i, none⟩) (by show w.heap.size ≤ w.heap.size + 1; omega) _
    refine bodyPost_ret (results_cell_row rfl _ _ (w.heap.size + 1) 33 #[.int .i64 a0_0, .int .i64 0, .int .i64 0, .int .i64 0, .int .i64 pN, .string pS, .slice A9 lM.length c9, .bool pK] (0, 0) _ rfl ?_ Tryd.underlying33 rfl (by kernel_rfl)) rfl ⟨(.slice A9 lM.length c9), rfl, ?_, ?_⟩
    · have h1 := blk_set (blk_set (blk_set (blk_set (blk_set (blk_set (blk_set (blk_set (PL'.out.res) 0 (.int .i64 a0_0)) 1 (.int .i64 0)) 2 (.int .i64 0)) 3 (.int .i64 0)) 4 (.int .i64 pN)) 5 (.string pS)) 6 (.slice A9 lM.length c9)) 7 (.bool pK)
      rw [h1]
      first | done | rfl | simp
    · refine Kd.R_mono (Kd.R_lower (Kd.R_move (Kd.R_bound PL'.out.r) (fun k hk => ?_)) (by omega)) (fun _ _ => trivial)
      have hk1 : k ≠ w.heap.size + 1 := by
        have := hk.2.1
        omega
      simp only [hne _ _ _ _ hk1]
    · exact hBs _ _ _ (hBs _ _ _ (hBs _ _ _ (hBs _ _ _ (hBs _ _ _ (hBs _ _ _ (hBs _ _ _ (hBs _ _ _ PL'.out.bel)))))))
  · simp only [Bool.false_eq_true, if_true, if_false, Prod.mk.injEq] at h hpl
    obtain ⟨rfl, rfl, rfl, rfl, rfl, rfl, rfl, rfl⟩ := h
    have HPL := Aside0.mk hpl
    clear hpl
    go_enter Tryd.func23, Tryd.ntmps23
    go_wp2_with (first
      | (go_at_call 18; refine Aside0.out ?_))
    refine ⟨?_⟩
    obtain ⟨Wa, hWa⟩ : ∃ Wa, (w.alloc (.cells #[.int .i64 a0_0, .int .i64 a0_1, .int .i64 a0_2, .int .i64 a0_3, .int .i64 a0_4, .string a0_5, .slice A0_6 l0_6.length c0_6, .bool a0_7] 33)).alloc (.cells #[.int .i64 0, .int .i64 0, .int .i64 0, .int .i64 0, .int .i64 0, .string (⟨#[]⟩ : ByteArray), .slice none 0 0, .bool false] 33) = Wa := ⟨_, rfl⟩
    have hBa : Below w.heap.size w Wa := by rw [← hWa]; exact below_alloc (below_alloc (Below.refl _ _) _) _
    have hsa : Wa.heap.size = w.heap.size + 2 := by rw [← hWa]; simp
    have hoa : Wa.heap[w.heap.size]? = some (.cells #[.int .i64 a0_0, .int .i64 a0_1, .int .i64 a0_2, .int .i64 a0_3, .int .i64 a0_4, .string a0_5, .slice A0_6 l0_6.length c0_6, .bool a0_7] 33 (0, 0)) := by rw [← hWa, heap_alloc_old _ _ (by simp)]; exact heap_alloc_new w _
    have hra : Wa.heap[w.heap.size + 1]? = some (.cells #[.int .i64 0, .int .i64 0, .int .i64 0, .int .i64 0, .int .i64 0, .string (⟨#[]⟩ : ByteArray), .slice none 0 0, .bool false] 33 (0, 0)) := by
      have := heap_alloc_new (w.alloc (.cells #[.int .i64 a0_0, .int .i64 a0_1, .int .i64 a0_2, .int .i64 a0_3, .int .i64 a0_4, .string a0_5, .slice A0_6 l0_6.length c0_6, .bool a0_7] 33)) (.cells #[.int .i64 0, .int .i64 0, .int .i64 0, .int .i64 0, .int .i64 0, .string (⟨#[]⟩ : ByteArray), .slice none 0 0, .bool false] 33)
      rw [World.size_alloc] at this
      rw [← hWa]; exact this
    rw [hWa]
    refine (hallmarkref04_Plain.calls _ _ _ _ _ _ A0_6 c0_6 l0_6 _ _ _ _ _ _ _ _ _ Wa (Kd.C_below HR.out hBa) HCap.out HPL.out).mono ?_
    rintro e w1 ⟨v6, rfl, hR, hB⟩
    obtain ⟨A3, c3, rfl⟩ := Kd.R_slice hR
    have hcap3 := (Kd.R_reads' hR).2.1
    have ho1 := (hB.block w.heap.size (by omega)).trans hoa
    have hq1 := (hB.block (w.heap.size + 1) (by omega)).trans hra
    have hB1 := below_step hBa hB
    have z1 := blk_frozen ho1
    have y1 := blk_cell ho1
    have HP0 : Aside0 (RnR w a0_0 a0_1 a0_2 a0_3 pN pS (.slice A3 0 c3) ([] : List Int) pK ((((((((w1.setCell ⟨w.heap.size, 0, none⟩ (.int .i64 a0_0)).setCell ⟨w.heap.size, 1, none⟩ (.int .i64 a0_1)).setCell ⟨w.heap.size, 2, none⟩ (.int .i64 a0_2)).setCell ⟨w.heap.size, 3, none⟩ (.int .i64 a0_3)).setCell ⟨w.heap.size, 4, none⟩ (.int .i64 pN)).setCell ⟨w.heap.size, 5, none⟩ (.string pS)).setCell ⟨w.heap.size, 6, none⟩ (.slice A3 0 c3)).setCell ⟨w.heap.size, 7, none⟩ (.bool pK))) := by
      have hne : ∀ (V : World) (i j : Nat) (u : Value), j ≠ w.heap.size → (V.setCell ⟨w.heap.size, i, none⟩ u).heap[j]? = V.heap[j]? := fun V i j u hj => Below.heap_setCell V ⟨w.heap.size, i, none⟩ u j hj
      have hBs : ∀ (V : World) (i : Nat) (u : Value), Below w.heap.size w V → Below w.heap.size w (V.setCell ⟨w.heap.size, i, none⟩ u) := fun V i u h => h.setCell (p := ⟨w.heap.size, i, none⟩) (Nat.le_refl _) _
      refine ⟨⟨hBs _ _ _ (hBs _ _ _ (hBs _ _ _ (hBs _ _ _ (hBs _ _ _ (hBs _ _ _ (hBs _ _ _ (hBs _ _ _ hB1))))))), ?_, ?_, ?_⟩⟩
      · have h1 := blk_set (blk_set (blk_set (blk_set (blk_set (blk_set (blk_set (blk_set ho1 0 (.int .i64 a0_0)) 1 (.int .i64 a0_1)) 2 (.int .i64 a0_2)) 3 (.int .i64 a0_3)) 4 (.int .i64 pN)) 5 (.string pS)) 6 (.slice A3 0 c3)) 7 (.bool pK)
        rw [h1]; first | done | rfl | simp
      · simp only [hne _ _ _ _ (show w.heap.size + 1 ≠ w.heap.size by omega)]; exact hq1
      · have := Kd.R_bound hR
        rw [hsa] at this
        exact Kd.R_mono (Kd.R_move this (fun k hk => by simp only [hne _ _ _ _ (show k ≠ w.heap.size by have := hk.2.1; omega)])) (fun _ _ => trivial)
    have HCap3 := Aside0.mk hcap3
    clear hR hB hoa hra ho1 hq1 hB1 hBa hsa hWa hcap3
    have qk0 := blk_cell HP0.out.o 0
    go_wp2_with (first
      | (go_at_call 29; with_reducible refine (HcA.out _).mono ?_; rintro e XA ⟨rfl, hd⟩; have PA := Aside0.mk (RnR.below (HP0.out) hd.below); clear hd; have qsA := blk_cell PA.out.o 1)
      | (go_at_call 32; with_reducible refine (hallmarkref04_To.calls a0_1 A1 c1 l1 (nm l1 a0_1) _ (Kd.C_below HT.out PA.out.bel) HCT.out (ref_to_is _ _)).mono ?_; rintro e YA ⟨rfl, hd⟩; have TA := Aside0.mk (RnR.below PA.out hd.below); clear hd; have qcA := blk_cell TA.out.o 1; have qfA := blk_frozen TA.out.o 1; have PA' := Aside0.mk (RnR.put (vA' := (nm l1 a0_1)) (vB' := a0_2) (vC' := a0_3) TA.out 1 (.int .i64 (nm l1 a0_1)) rfl); have qkA := blk_cell PA'.out.o 0)
      | (go_at_call 29; with_reducible refine (HcB.out _).mono ?_; rintro e XB ⟨rfl, hd⟩; have PB := Aside0.mk (RnR.below (PA'.out) hd.below); clear hd; have qsB := blk_cell PB.out.o 2)
      | (go_at_call 32; with_reducible refine (hallmarkref04_To.calls a0_2 A1 c1 l1 (nm l1 a0_2) _ (Kd.C_below HT.out PB.out.bel) HCT.out (ref_to_is _ _)).mono ?_; rintro e YB ⟨rfl, hd⟩; have TB := Aside0.mk (RnR.below PB.out hd.below); clear hd; have qcB := blk_cell TB.out.o 2; have qfB := blk_frozen TB.out.o 2; have PB' := Aside0.mk (RnR.put (vA' := (nm l1 a0_1)) (vB' := (nm l1 a0_2)) (vC' := a0_3) TB.out 2 (.int .i64 (nm l1 a0_2)) rfl); have qkB := blk_cell PB'.out.o 0)
      | (go_at_call 29; with_reducible refine (HcC.out _).mono ?_; rintro e XC ⟨rfl, hd⟩; have PC := Aside0.mk (RnR.below (PB'.out) hd.below); clear hd; have qsC := blk_cell PC.out.o 3)
      | (go_at_call 32; with_reducible refine (hallmarkref04_To.calls a0_3 A1 c1 l1 (nm l1 a0_3) _ (Kd.C_below HT.out PC.out.bel) HCT.out (ref_to_is _ _)).mono ?_; rintro e YC ⟨rfl, hd⟩; have TC := Aside0.mk (RnR.below PC.out hd.below); clear hd; have qcC := blk_cell TC.out.o 3; have qfC := blk_frozen TC.out.o 3; have PC' := Aside0.mk (RnR.put (vA' := (nm l1 a0_1)) (vB' := (nm l1 a0_2)) (vC' := (nm l1 a0_3)) TC.out 3 (.int .i64 (nm l1 a0_3)) rfl); have qkC := blk_cell PC'.out.o 0)
      | (go_at_call 29; with_reducible refine (HcL.out _).mono ?_; rintro e XL ⟨rfl, hd⟩; have PL := Aside0.mk (RnR.below (PC'.out) hd.below); clear hd; have qkL := blk_cell PL.out.o 0; have hz := blk_frozen PL.out.res; have hpp := blk_cell PL.out.res; have hq := blk_cell PL.out.o))
    have hne : ∀ (V : World) (i j : Nat) (u : Value), j ≠ w.heap.size + 1 → (V.setCell ⟨w.heap.size + 1, i, none⟩ u).heap[j]? = V.heap[j]? := fun V i j u hj => Below.heap_setCell V ⟨w.heap.size + 1, i, none⟩ u j hj
    have hBs : ∀ (V : World) (i : Nat) (u : Value), Below w.heap.size w V → Below w.heap.size w (V.setCell ⟨w.heap.size + 1, i, none⟩ u) := fun V i u h => h.setCell (p := ⟨w.heap.size + 1, i, none⟩) (by show w.heap.size ≤ w.heap.size + 1; omega) _
    refine bodyPost_ret (results_cell_row rfl _ _ (w.heap.size + 1) 33 #[.int .i64 a0_0, .int .i64 (nm l1 a0_1), .int .i64 (nm l1 a0_2), .int .i64 (nm l1 a0_3), .int .i64 pN, .string pS, .slice A3 0 c3, .bool pK] (0, 0) _ rfl ?_ Tryd.underlying33 rfl (by kernel_rfl)) rfl ⟨(.slice A3 0 c3), rfl, ?_, ?_⟩
    · have h1 := blk_set (blk_set (blk_set (blk_set (blk_set (blk_set (blk_set (blk_set (PL.out.res) 0 (.int .i64 a0_0)) 1 (.int .i64 (nm l1 a0_1))) 2 (.int .i64 (nm l1 a0_2))) 3 (.int .i64 (nm l1 a0_3))) 4 (.int .i64 pN)) 5 (.string pS)) 6 (.slice A3 0 c3)) 7 (.bool pK)
      rw [h1]
      first | done | rfl | simp
    · refine Kd.R_mono (Kd.R_lower (Kd.R_move (Kd.R_bound PL.out.r) (fun k hk => ?_)) (by omega)) (fun _ _ => trivial)
      have hk1 : k ≠ w.heap.size + 1 := by
        have := hk.2.1
        omega
      simp only [hne _ _ _ _ hk1]
    · exact hBs _ _ _ (hBs _ _ _ (hBs _ _ _ (hBs _ _ _ (hBs _ _ _ (hBs _ _ _ (hBs _ _ _ (hBs _ _ _ PL.out.bel)))))))
  · simp only [Bool.false_eq_true, if_true, if_false, Prod.mk.injEq] at h hpl
    obtain ⟨lM, hlM⟩ : ∃ lM, l0_6.map (nm l1) = lM := ⟨_, rfl⟩
    rw [hlM] at h
    have HlM := Aside0.mk hlM
    clear hlM
    obtain ⟨rfl, rfl, rfl, rfl, rfl, rfl, rfl, rfl⟩ := h
    have HPL := Aside0.mk hpl
    clear hpl
    go_enter Tryd.func23, Tryd.ntmps23
    go_wp2_with (first
      | (go_at_call 18; refine Aside0.out ?_))
    refine ⟨?_⟩
    obtain ⟨Wa, hWa⟩ : ∃ Wa, (w.alloc (.cells #[.int .i64 a0_0, .int .i64 a0_1, .int .i64 a0_2, .int .i64 a0_3, .int .i64 a0_4, .string a0_5, .slice A0_6 l0_6.length c0_6, .bool a0_7] 33)).alloc (.cells #[.int .i64 0, .int .i64 0, .int .i64 0, .int .i64 0, .int .i64 0, .string (⟨#[]⟩ : ByteArray), .slice none 0 0, .bool false] 33) = Wa := ⟨_, rfl⟩
    have hBa : Below w.heap.size w Wa := by rw [← hWa]; exact below_alloc (below_alloc (Below.refl _ _) _) _
    have hsa : Wa.heap.size = w.heap.size + 2 := by rw [← hWa]; simp
    have hoa : Wa.heap[w.heap.size]? = some (.cells #[.int .i64 a0_0, .int .i64 a0_1, .int .i64 a0_2, .int .i64 a0_3, .int .i64 a0_4, .string a0_5, .slice A0_6 l0_6.length c0_6, .bool a0_7] 33 (0, 0)) := by rw [← hWa, heap_alloc_old _ _ (by simp)]; exact heap_alloc_new w _
    have hra : Wa.heap[w.heap.size + 1]? = some (.cells #[.int .i64 0, .int .i64 0, .int .i64 0, .int .i64 0, .int .i64 0, .string (⟨#[]⟩ : ByteArray), .slice none 0 0, .bool false] 33 (0, 0)) := by
      have := heap_alloc_new (w.alloc (.cells #[.int .i64 a0_0, .int .i64 a0_1, .int .i64 a0_2, .int .i64 a0_3, .int .i64 a0_4, .string a0_5, .slice A0_6 l0_6.length c0_6, .bool a0_7] 33)) (.cells #[.int .i64 0, .int .i64 0, .int .i64 0, .int .i64 0, .int .i64 0, .string (⟨#[]⟩ : ByteArray), .slice none 0 0, .bool false] 33)
      rw [World.size_alloc] at this
      rw [← hWa]; exact this
    rw [hWa]
    refine (hallmarkref04_Plain.calls _ _ _ _ _ _ A0_6 c0_6 l0_6 _ _ _ _ _ _ _ _ _ Wa (Kd.C_below HR.out hBa) HCap.out HPL.out).mono ?_
    rintro e w1 ⟨v6, rfl, hR, hB⟩
    obtain ⟨A3, c3, rfl⟩ := Kd.R_slice hR
    have hcap3 := (Kd.R_reads' hR).2.1
    have ho1 := (hB.block w.heap.size (by omega)).trans hoa
    have hq1 := (hB.block (w.heap.size + 1) (by omega)).trans hra
    have hB1 := below_step hBa hB
    have z1 := blk_frozen ho1
    have y1 := blk_cell ho1
    have HP0 : Aside0 (RnR w a0_0 a0_1 0 0 pN pS (.slice A3 l0_6.length c3) l0_6 pK ((((((((w1.setCell ⟨w.heap.size, 0, none⟩ (.int .i64 a0_0)).setCell ⟨w.heap.size, 1, none⟩ (.int .i64 a0_1)).setCell ⟨w.heap.size, 2, none⟩ (.int .i64 0)).setCell ⟨w.heap.size, 3, none⟩ (.int .i64 0)).setCell ⟨w.heap.size, 4, none⟩ (.int .i64 pN)).setCell ⟨w.heap.size, 5, none⟩ (.string pS)).setCell ⟨w.heap.size, 6, none⟩ (.slice A3 l0_6.length c3)).setCell ⟨w.heap.size, 7, none⟩ (.bool pK))) := by
      have hne : ∀ (V : World) (i j : Nat) (u : Value), j ≠ w.heap.size → (V.setCell ⟨w.heap.size, i, none⟩ u).heap[j]? = V.heap[j]? := fun V i j u hj => Below.heap_setCell V ⟨w.heap.size, i, none⟩ u j hj
      have hBs : ∀ (V : World) (i : Nat) (u : Value), Below w.heap.size w V → Below w.heap.size w (V.setCell ⟨w.heap.size, i, none⟩ u) := fun V i u h => h.setCell (p := ⟨w.heap.size, i, none⟩) (Nat.le_refl _) _
      refine ⟨⟨hBs _ _ _ (hBs _ _ _ (hBs _ _ _ (hBs _ _ _ (hBs _ _ _ (hBs _ _ _ (hBs _ _ _ (hBs _ _ _ hB1))))))), ?_, ?_, ?_⟩⟩
      · have h1 := blk_set (blk_set (blk_set (blk_set (blk_set (blk_set (blk_set (blk_set ho1 0 (.int .i64 a0_0)) 1 (.int .i64 a0_1)) 2 (.int .i64 0)) 3 (.int .i64 0)) 4 (.int .i64 pN)) 5 (.string pS)) 6 (.slice A3 l0_6.length c3)) 7 (.bool pK)
        rw [h1]; first | done | rfl | simp
      · simp only [hne _ _ _ _ (show w.heap.size + 1 ≠ w.heap.size by omega)]; exact hq1
      · have := Kd.R_bound hR
        rw [hsa] at this
        exact Kd.R_mono (Kd.R_move this (fun k hk => by simp only [hne _ _ _ _ (show k ≠ w.heap.size by have := hk.2.1; omega)])) (fun _ _ => trivial)
    have HCap3 := Aside0.mk hcap3
    clear hR hB hoa hra ho1 hq1 hB1 hBa hsa hWa hcap3
    have qk0 := blk_cell HP0.out.o 0
    go_wp2_with (first
      | (go_at_call 29; with_reducible refine (HcA.out _).mono ?_; rintro e XA ⟨rfl, hd⟩; have PA := Aside0.mk (RnR.below (HP0.out) hd.below); clear hd; have qsA := blk_cell PA.out.o 1)
      | (go_at_call 32; with_reducible refine (hallmarkref04_To.calls a0_1 A1 c1 l1 (nm l1 a0_1) _ (Kd.C_below HT.out PA.out.bel) HCT.out (ref_to_is _ _)).mono ?_; rintro e YA ⟨rfl, hd⟩; have TA := Aside0.mk (RnR.below PA.out hd.below); clear hd; have qcA := blk_cell TA.out.o 1; have qfA := blk_frozen TA.out.o 1; have PA' := Aside0.mk (RnR.put (vA' := (nm l1 a0_1)) (vB' := 0) (vC' := 0) TA.out 1 (.int .i64 (nm l1 a0_1)) rfl); have qkA := blk_cell PA'.out.o 0)
      | (go_at_call 29; with_reducible refine (HcB.out _).mono ?_; rintro e XB ⟨rfl, hd⟩; have PB := Aside0.mk (RnR.below (PA'.out) hd.below); clear hd; have qkB := blk_cell PB.out.o 0)
      | (go_at_call 29; with_reducible refine (HcC.out _).mono ?_; rintro e XC ⟨rfl, hd⟩; have PC := Aside0.mk (RnR.below (PB.out) hd.below); clear hd; have qkC := blk_cell PC.out.o 0)
      | (go_at_call 29; with_reducible refine (HcL.out _).mono ?_; rintro e XL ⟨rfl, hd⟩; have PL := Aside0.mk (RnR.below (PC.out) hd.below); clear hd; have qsL := blk_cell PL.out.o 6)
      | (go_at_call 33; refine Aside0.out ?_))
    refine ⟨?_⟩
    obtain ⟨ka, hka⟩ := Ev.rounds (ref_all_ev l0_6 l1 HLL.out.1)
    rw [HlM.out] at hka
    refine (hallmarkref04_All.calls ka A3 c3 l0_6 A1 c1 l1 lM _ (Kd.R_reads' PL.out.r).2.2 HCap3.out (Kd.C_below HT.out PL.out.bel) HCT.out hka).mono ?_
    rintro e Y ⟨v9, rfl, hR9, hb9⟩
    obtain ⟨A9, c9, rfl⟩ := Kd.R_slice hR9
    have TL := Aside0.mk (RnR.below PL.out hb9)
    have HO9 := Aside0.mk (Kd.R_mono (Kd.R_lower hR9 (show w.heap.size + 2 ≤ XL.heap.size by have := PL.out.lt; omega)) (fun _ _ => trivial))
    have PL' := Aside0.mk (RnR.putL TL.out HO9.out)
    have qcL := blk_cell TL.out.o 6
    have qfL := blk_frozen TL.out.o 6
    have hz := blk_frozen PL'.out.res
    have hpp := blk_cell PL'.out.res
    have hq := blk_cell PL'.out.o
    clear hka hR9 hb9
    go_wp2
    have hne : ∀ (V : World) (i j : Nat) (u : Value), j ≠ w.heap.size + 1 → (V.setCell ⟨w.heap.size + 1, i, none⟩ u).heap[j]? = V.heap[j]? := fun V i j u hj => Below.heap_setCell V ⟨w.heap.size + 1, i, none⟩ u j hj
    have hBs : ∀ (V : World) (i : Nat) (u : Value), Below w.heap.size w V → Below w.heap.size w (V.setCell ⟨w.heap.size + 1, i, none⟩ u) := fun V i u h => h.setCell (p := ⟨w.heap.size + 1, i, none⟩) (by show w.heap.size ≤ w.heap.size + 1; omega) _
    refine bodyPost_ret (results_cell_row rfl _ _ (w.heap.size + 1) 33 #[.int .i64 a0_0, .int .i64 (nm l1 a0_1), .int .i64 0, .int .i64 0, .int .i64 pN, .string pS, .slice A9 lM.length c9, .bool pK] (0, 0) _ rfl ?_ Tryd.underlying33 rfl (by kernel_rfl)) rfl ⟨(.slice A9 lM.length c9), rfl, ?_, ?_⟩
    · have h1 := blk_set (blk_set (blk_set (blk_set (blk_set (blk_set (blk_set (blk_set (PL'.out.res) 0 (.int .i64 a0_0)) 1 (.int .i64 (nm l1 a0_1))) 2 (.int .i64 0)) 3 (.int .i64 0)) 4 (.int .i64 pN)) 5 (.string pS)) 6 (.slice A9 lM.length c9)) 7 (.bool pK)
      rw [h1]
      first | done | rfl | simp
    · refine Kd.R_mono (Kd.R_lower (Kd.R_move (Kd.R_bound PL'.out.r) (fun k hk => ?_)) (by omega)) (fun _ _ => trivial)
      have hk1 : k ≠ w.heap.size + 1 := by
        have := hk.2.1
        omega
      simp only [hne _ _ _ _ hk1]
    · exact hBs _ _ _ (hBs _ _ _ (hBs _ _ _ (hBs _ _ _ (hBs _ _ _ (hBs _ _ _ (hBs _ _ _ (hBs _ _ _ PL'.out.bel)))))))

end Go.Proofs.YtbjdiaefchcbjaaDoor.PKindUses
