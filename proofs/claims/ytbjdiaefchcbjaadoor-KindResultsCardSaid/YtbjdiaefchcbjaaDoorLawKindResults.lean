-- written by wip/row3.py: the row of the law hallmarklaw04_KindResults
import Derived.Test.YtbjdiaefchcbjaaDoorRows
import Derived.Test.YtbjdiaefchcbjaaDoorPKindResultsx13
import Derived.Test.YtbjdiaefchcbjaaDoorPureKindResults
import Derived.Test.YtbjdiaefchcbjaaDoorOpens
import Derived.Test.YtbjdiaefchcbjaaDoorLaidKindResults
import Derived.Test.YtbjdiaefchcbjaaDoorTie
import Derived.Test.YtbjdiaefchcbjaaDoorCards
import Derived.LaidMore
import Derived.Stop.Joined
import Derived.SevenTiedAt
import Derived.LaidHandle
import Derived.ChangeSame
import Derived.WalkKit
import Derived.ProofKit
import Derived.OpenShut
import Derived.ShutString
import Derived.ChangeOld
import Derived.Below
import Derived.SizedLaws
namespace Go.Proofs.YtbjdiaefchcbjaaDoor.kindResults
open Go.ChangeShapes Go.WideShapes Go.ChangeAt Go.RowKit Opens PKindResults Go.Proofs.YtbjdiaefchcbjaaDoorW.PrintWords
set_option linter.unusedVariables false
theorem own : ownKnob Tryd.prog.godebug = none := by kernel_rfl
theorem laidOut : laidOutB Tryd.prog = true := by kernel_rfl
theorem door_met (os : Os) (args : Array Value) : laidMetH Tryd.prog Rows.kindResultsRow.laid ((World.doorLaid Tryd.prog 14 os).forCall (fun _ _ => 0) ⟨#[], args, []⟩).memory :=
  laidMetH_of_parts3 (fuel := 8) (laidMet_of_run' 8 (by kernel_rfl) (by kernel_rfl)) (by kernel_rfl) (by kernel_rfl)
set_option maxRecDepth 100000 in
theorem lifted (os : Os) (started : os.Started) (H : Type) (enc : TypeId × Value → H) :
    ReturnsInHanded {} Tryd.checked os 7 .any (fun w args => (Rows.kindResultsSpec.pre enc Tryd.prog Tryd.f7 [] false w args ∧ laidMetH Tryd.prog Rows.kindResultsRow.laid w) ∧ sizedMet enc Tryd.prog Tryd.f7 (OpenSpec.ofChange Rows.kindResultsSpec) false w args) (Rows.kindResultsSpec.post enc Tryd.prog Tryd.f7 false true false false) := by
  refine returnsInHanded_of_change_and (C := Tryd.checked) (X := fun w _ => laidMetH Tryd.prog Rows.kindResultsRow.laid w) (fun _ _ _ hh h => h.of_heap hh) own started (by kernel_rfl) Tryd.func7
    (ChangeSpec.witness_shaped (enc := enc) (C := Tryd.checked) (os := os) (X := fun w _ => laidMetH Tryd.prog Rows.kindResultsRow.laid w) false (World.doorLaid Tryd.prog 14 os) #[.agg #[.slice none 0 0, .slice none 0 0, .slice none 0 0], .agg #[.int .i64 0, .int .i64 0, .int .i64 0, .int .i64 0, .int .i64 0, .string ByteArray.empty, .slice none 0 0, .bool false], .slice none 0 0] 8 rfl (World.shaped_of_RefB (by kernel_rfl) (by kernel_rfl)) (by kernel_rfl) (by kernel_rfl) (by kernel_rfl) (door_met os _)) ?_
  intro W base args ds gs before hval0 hW hcnd hsz0 hL _
  rw [MakeChecks.laidMetH_plain _ _ _ (by kernel_rfl)] at hL
  have hG := Door.laid_of hL
  clear hL
  have hsz : (DataW.weightsEach Tryd.prog (Tryd.f7.params.toList ++ Rows.kindResultsSpec.plain.varTypes Tryd.prog) (ds ++ gs)).all (· ≤ reachBytes) = true := hsz0
  have hval : ∀ (j : Nat) t v, Tryd.f7.params[j]? = some t → args[j]? = some v → Value.okWide Tryd.prog W .any base t v := hval0
  have hW' := hW
  obtain ⟨p, q, hA0, hV, rfl, hfz, hnd⟩ := hW
  have hA : DataW.TrodAll enc Tryd.prog W 0 (fun _ => true) true Tryd.f7.params.toList args.toList ds p := hA0
  rw [Tryd.params7] at hA hval hsz
  obtain ⟨v0, vs0, d0, ds0, p0, q0, hargs, rfl, rfl, h0, r0⟩ := trodAll_cons hA
  obtain ⟨v1, vs1, d1, ds1, p1, q1, rfl, rfl, rfl, h1, r1⟩ := trodAll_cons r0
  obtain ⟨v2, vs2, d2, ds2, p2, q2, rfl, rfl, rfl, h2, r2⟩ := trodAll_cons r1
  obtain ⟨rfl, rfl, rfl⟩ := trodAll_nil r2
  obtain rfl : args = #[v0, v1, v2] := by cases args; simp_all
  obtain ⟨rfl, rfl⟩ := trodVars_none hV
  have k0 := h0
  have lt0 : ∀ x ∈ p0, x.block < W.heap.size := by obtain ⟨m, hm⟩ := k0; exact DataW.trod_lt m _ _ _ hm
  obtain ⟨cs0, rfl⟩ := okWide_agg Tryd.underlying26 (hval 0 26 v0 rfl rfl)
  obtain ⟨⟨l0_0, l0_1, l0_2⟩, hK0, hV0⟩ := opens_arg (V := _) (opens_struct Tryd.underlying26 (by kernel_rfl) (fields_cons rfl (opens_slice Tryd.underlying22 (by kernel_rfl) opens73 (B := 32) (by kernel_rfl)) (fields_cons rfl (opens_slice Tryd.underlying23 (by kernel_rfl) opens77 (B := 48) (by kernel_rfl)) (fields_one rfl (opens_slice Tryd.underlying24 (by kernel_rfl) opens66 (B := 32) (by kernel_rfl)))))) hsz (j := 0) (t := 26) rfl rfl h0
  obtain ⟨hV0_0, hV0_1, hV0_2⟩ := hV0
  obtain ⟨x0_0, y0_0, e0_0, K0_0, R0_0⟩ := hK0
  obtain ⟨x0_1, y0_1, e0_1, K0_1, R0_1⟩ := R0_0
  obtain ⟨A0_0, c0_0, rfl, hc0_0, hr0_0⟩ := K0_0
  obtain ⟨A0_1, c0_1, rfl, hc0_1, hr0_1⟩ := K0_1
  obtain ⟨A0_2, c0_2, rfl, hc0_2, hr0_2⟩ := R0_1
  obtain rfl : cs0 = #[.slice A0_0 l0_0.length c0_0, .slice A0_1 l0_1.length c0_1, .slice A0_2 l0_2.length c0_2] := by
    apply Array.toList_inj.1
    have e_ : (Value.agg cs0).cells.toList = _ := e0_0
    rw [e0_1] at e_
    exact e_
  have k1 := h1
  have lt1 : ∀ x ∈ p1, x.block < W.heap.size := by obtain ⟨m, hm⟩ := k1; exact DataW.trod_lt m _ _ _ hm
  obtain ⟨cs1, rfl⟩ := okWide_agg Tryd.underlying33 (hval 1 33 v1 rfl rfl)
  obtain ⟨⟨a1_0, a1_1, a1_2, a1_3, a1_4, a1_5, l1_6, a1_7⟩, hK1, hV1⟩ := opens_arg (V := _) (opens_struct Tryd.underlying33 (by kernel_rfl) (fields_cons rfl (opens_int Tryd.underlying3 (by kernel_rfl)) (fields_cons rfl (opens_int Tryd.underlying3 (by kernel_rfl)) (fields_cons rfl (opens_int Tryd.underlying3 (by kernel_rfl)) (fields_cons rfl (opens_int Tryd.underlying3 (by kernel_rfl)) (fields_cons rfl (opens_int Tryd.underlying2 (by kernel_rfl)) (fields_cons rfl (opens_string Tryd.underlying9 (by kernel_rfl)) (fields_cons rfl (opens_slice Tryd.underlying31 (by kernel_rfl) (opens_int Tryd.underlying3 (by kernel_rfl)) (B := 8) (by kernel_rfl)) (fields_one rfl (opens_bool Tryd.underlying4 (by kernel_rfl))))))))))) hsz (j := 1) (t := 33) rfl rfl h1
  obtain ⟨hV1_0, hV1_1, hV1_2, hV1_3, hV1_4, hV1_5, hV1_6, hV1_7⟩ := hV1
  obtain ⟨x1_0, y1_0, e1_0, K1_0, R1_0⟩ := hK1
  obtain ⟨x1_1, y1_1, e1_1, K1_1, R1_1⟩ := R1_0
  obtain ⟨x1_2, y1_2, e1_2, K1_2, R1_2⟩ := R1_1
  obtain ⟨x1_3, y1_3, e1_3, K1_3, R1_3⟩ := R1_2
  obtain ⟨x1_4, y1_4, e1_4, K1_4, R1_4⟩ := R1_3
  obtain ⟨x1_5, y1_5, e1_5, K1_5, R1_5⟩ := R1_4
  obtain ⟨x1_6, y1_6, e1_6, K1_6, R1_6⟩ := R1_5
  obtain rfl : x1_0 = [.int .i64 a1_0] := K1_0
  obtain rfl : x1_1 = [.int .i64 a1_1] := K1_1
  obtain rfl : x1_2 = [.int .i64 a1_2] := K1_2
  obtain rfl : x1_3 = [.int .i64 a1_3] := K1_3
  obtain rfl : x1_4 = [.int .i64 a1_4] := K1_4
  obtain rfl : x1_5 = [.string a1_5] := K1_5
  obtain ⟨A1_6, c1_6, rfl, hc1_6, hr1_6⟩ := K1_6
  obtain rfl : y1_6 = [.bool a1_7] := R1_6
  obtain rfl : cs1 = #[.int .i64 a1_0, .int .i64 a1_1, .int .i64 a1_2, .int .i64 a1_3, .int .i64 a1_4, .string a1_5, .slice A1_6 l1_6.length c1_6, .bool a1_7] := by
    apply Array.toList_inj.1
    have e_ : (Value.agg cs1).cells.toList = _ := e1_0
    rw [e1_1, e1_2, e1_3, e1_4, e1_5, e1_6] at e_
    exact e_
  have k2 := h2
  have lt2 : ∀ x ∈ p2, x.block < W.heap.size := by obtain ⟨m, hm⟩ := k2; exact DataW.trod_lt m _ _ _ hm
  obtain ⟨za2, zn2, zc2, rfl⟩ := okWide_slice Tryd.underlying31 (hval 2 31 v2 rfl rfl)
  obtain ⟨l2, hK2, hV2⟩ := opens_arg (V := _) (opens_slice Tryd.underlying31 (by kernel_rfl) (opens_int Tryd.underlying3 (by kernel_rfl)) (B := 8) (by kernel_rfl)) hsz (j := 2) (t := 31) rfl rfl h2
  obtain ⟨A2, c2, e2_, hc2, hr2⟩ := hK2
  obtain ⟨rfl, rfl, rfl⟩ : za2 = A2 ∧ zn2 = l2.length ∧ zc2 = c2 := by simpa [Value.cells] using e2_
  clear hA0 hval0 hsz0 hsz
  obtain ⟨k, hf⟩ := Pure.KindResults l0_0 l0_1 l0_2 a1_0 a1_1 a1_2 a1_3 a1_4 a1_5 l1_6 a1_7 l2 hV0_0 hV0_1 hV0_2 hV1_0 hV1_1 hV1_2 hV1_3 hV1_4 hV1_5 hV1_6 hV1_7 hV2
  refine (hallmarklaw04_KindResults.calls k A0_0 c0_0 l0_0 A0_1 c0_1 l0_1 A0_2 c0_2 l0_2 a1_0 a1_1 a1_2 a1_3 a1_4 a1_5 A1_6 c1_6 l1_6 a1_7 za2 zc2 l2 true W hr0_0 hc0_0 hr0_1 hc0_1 hr0_2 hc0_2 hr1_6 hc1_6 hr2 hc2 hf hG).mono fun e W' ⟨he, bel⟩ => ?_
  subst he
  exact ⟨_, rfl, _, _, _, [], _, [], hW', trodAll_mk1 (shut_bool Tryd.underlying4 _), (trodAll_cons_mk (Below.trod laidOut (by kernel_rfl) (of_decide_eq_true (by kernel_rfl)) k0 bel lt0) (trodAll_cons_mk (Below.trod laidOut (by kernel_rfl) (of_decide_eq_true (by kernel_rfl)) k1 bel lt1) (trodAll_cons_mk (Below.trod laidOut (by kernel_rfl) (of_decide_eq_true (by kernel_rfl)) k2 bel lt2) trodAll_mk0))), rfl, bel.frame _, fun h => by cases h⟩
theorem over : Rows.kindResultsRow.holds Tryd.pinned (OpenSpec.ofChange Rows.kindResultsSpec) :=
  OpenClaim.holds_of_wide 7 Tryd.f7 rfl rfl rfl rfl rfl rfl rfl ⟨rfl, rfl, rfl, rfl, rfl⟩ rfl rfl rfl rfl rfl (by kernel_rfl) Tryd.func7 (by kernel_rfl)
    (of_decide_eq_true (by kernel_rfl)) (by unfold Func.isWrapper; first | (rw [if_pos (by decide +kernel)]; kernel_rfl) | (rw [if_neg (by decide +kernel)]; exact ⟨rfl, rfl⟩))
    (fun os started H enc _ => lifted os started H enc)
theorem proved : Rows.KindResultsCardSaid :=
  Claim7.holds_tied_plain_at .later [] [.data] true (true, "1e14f1c1a0a7d3f3db0f7dc0f2d8b56a120b03ffd646a7ab17320304e7f6dc2a") false
    over (fun _ h => by cases h) (by kernel_rfl) (fun _ h => by cases h) kindResults_row_tie rfl ⟨rfl, rfl⟩ (by kernel_rfl) rfl
    (fun f fn hf hfn => by
      obtain rfl : f = 7 := Option.some.inj ((show Tryd.prog.funcNamed "hallmark/hallmarklaw04.KindResults" = some 7 by kernel_rfl).symm.trans hf) |>.symm
      obtain rfl : fn = Tryd.f7 := (Option.some.inj (Tryd.func7.symm.trans hfn)).symm
      exact ⟨by kernel_rfl, fun j t ht => by
        rw [Tryd.params7] at ht
        have hm : t ∈ [26, 33, 31] := by simpa using Array.mem_of_getElem? ht
        have hall : ([26, 33, 31].all fun u => !Tryd.prog.wantsStandIn u) = true := by kernel_rfl
        exact (show Tryd.prog.wantsStandIn t = false by simpa using List.all_eq_true.1 hall t hm)⟩)
    (by kernel_rfl)
#print axioms proved
end Go.Proofs.YtbjdiaefchcbjaaDoor.kindResults
namespace Go.Proofs.YtbjdiaefchcbjaaDoor
/-- The card, under a short name, for the claim. -/
theorem kindResults_holds : Rows.KindResultsCardSaid := kindResults.proved
end Go.Proofs.YtbjdiaefchcbjaaDoor
