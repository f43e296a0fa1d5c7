-- written by wip/row3.py: the row of the law hallmarklaw04_KindTypes
import Derived.Test.YtbjdiaefchcbjaaDoorRows
import Derived.Test.YtbjdiaefchcbjaaDoorPKindTypesx5
import Derived.Test.YtbjdiaefchcbjaaDoorPureKindTypes
import Derived.Test.YtbjdiaefchcbjaaDoorOpens
import Derived.Test.YtbjdiaefchcbjaaDoorLaidKindTypes
import Derived.Test.YtbjdiaefchcbjaaDoorTie
import Derived.Test.YtbjdiaefchcbjaaDoorCards
import Derived.LaidMore
import Derived.Stop.Joined
import Derived.SevenTiedAt
import Derived.LaidHandle
import Derived.ChangeSame
import Derived.WalkKit
import Derived.ProofKit
import Derived.OpenShut
import Derived.ShutString
import Derived.ChangeOld
import Derived.Below
import Derived.SizedLaws
namespace Go.Proofs.YtbjdiaefchcbjaaDoor.kindTypes
open Go.ChangeShapes Go.WideShapes Go.ChangeAt Go.RowKit Opens PKindTypes Go.Proofs.YtbjdiaefchcbjaaDoorW.PrintWords
set_option linter.unusedVariables false
theorem own : ownKnob Tryd.prog.godebug = none := by kernel_rfl
theorem laidOut : laidOutB Tryd.prog = true := by kernel_rfl
theorem door_met (os : Os) (args : Array Value) : laidMetH Tryd.prog Rows.kindTypesRow.laid ((World.doorLaid Tryd.prog 14 os).forCall (fun _ _ => 0) ⟨#[], args, []⟩).memory :=
  laidMetH_of_parts3 (fuel := 8) (laidMet_of_run' 8 (by kernel_rfl) (by kernel_rfl)) (by kernel_rfl) (by kernel_rfl)
set_option maxRecDepth 100000 in
theorem lifted (os : Os) (started : os.Started) (H : Type) (enc : TypeId × Value → H) :
    ReturnsInHanded {} Tryd.checked os 3 .any (fun w args => (Rows.kindTypesSpec.pre enc Tryd.prog Tryd.f3 [] false w args ∧ laidMetH Tryd.prog Rows.kindTypesRow.laid w) ∧ sizedMet enc Tryd.prog Tryd.f3 (OpenSpec.ofChange Rows.kindTypesSpec) false w args) (Rows.kindTypesSpec.post enc Tryd.prog Tryd.f3 false true false false) := by
  refine returnsInHanded_of_change_and (C := Tryd.checked) (X := fun w _ => laidMetH Tryd.prog Rows.kindTypesRow.laid w) (fun _ _ _ hh h => h.of_heap hh) own started (by kernel_rfl) Tryd.func3
    (ChangeSpec.witness_shaped (enc := enc) (C := Tryd.checked) (os := os) (X := fun w _ => laidMetH Tryd.prog Rows.kindTypesRow.laid w) false (World.doorLaid Tryd.prog 14 os) #[.agg #[.slice none 0 0, .slice none 0 0, .slice none 0 0], .int .i64 0] 8 rfl (World.shaped_of_RefB (by kernel_rfl) (by kernel_rfl)) (by kernel_rfl) (by kernel_rfl) (by kernel_rfl) (door_met os _)) ?_
  intro W base args ds gs before hval0 hW hcnd hsz0 hL _
  rw [MakeChecks.laidMetH_plain _ _ _ (by kernel_rfl)] at hL
  have hG := Door.laid_of hL
  clear hL
  have hsz : (DataW.weightsEach Tryd.prog (Tryd.f3.params.toList ++ Rows.kindTypesSpec.plain.varTypes Tryd.prog) (ds ++ gs)).all (· ≤ reachBytes) = true := hsz0
  have hval : ∀ (j : Nat) t v, Tryd.f3.params[j]? = some t → args[j]? = some v → Value.okWide Tryd.prog W .any base t v := hval0
  have hW' := hW
  obtain ⟨p, q, hA0, hV, rfl, hfz, hnd⟩ := hW
  have hA : DataW.TrodAll enc Tryd.prog W 0 (fun _ => true) true Tryd.f3.params.toList args.toList ds p := hA0
  rw [Tryd.params3] at hA hval hsz
  obtain ⟨v0, vs0, d0, ds0, p0, q0, hargs, rfl, rfl, h0, r0⟩ := trodAll_cons hA
  obtain ⟨v1, vs1, d1, ds1, p1, q1, rfl, rfl, rfl, h1, r1⟩ := trodAll_cons r0
  obtain ⟨rfl, rfl, rfl⟩ := trodAll_nil r1
  obtain rfl : args = #[v0, v1] := by cases args; simp_all
  obtain ⟨rfl, rfl⟩ := trodVars_none hV
  have k0 := h0
  have lt0 : ∀ x ∈ p0, x.block < W.heap.size := by obtain ⟨m, hm⟩ := k0; exact DataW.trod_lt m _ _ _ hm
  obtain ⟨cs0, rfl⟩ := okWide_agg Tryd.underlying26 (hval 0 26 v0 rfl rfl)
  obtain ⟨⟨l0_0, l0_1, l0_2⟩, hK0, hV0⟩ := opens_arg (V := _) (opens_struct Tryd.underlying26 (by kernel_rfl) (fields_cons rfl (opens_slice Tryd.underlying22 (by kernel_rfl) opens73 (B := 32) (by kernel_rfl)) (fields_cons rfl (opens_slice Tryd.underlying23 (by kernel_rfl) opens77 (B := 48) (by kernel_rfl)) (fields_one rfl (opens_slice Tryd.underlying24 (by kernel_rfl) opens66 (B := 32) (by kernel_rfl)))))) hsz (j := 0) (t := 26) rfl rfl h0
  obtain ⟨hV0_0, hV0_1, hV0_2⟩ := hV0
  obtain ⟨x0_0, y0_0, e0_0, K0_0, R0_0⟩ := hK0
  obtain ⟨x0_1, y0_1, e0_1, K0_1, R0_1⟩ := R0_0
  obtain ⟨A0_0, c0_0, rfl, hc0_0, hr0_0⟩ := K0_0
  obtain ⟨A0_1, c0_1, rfl, hc0_1, hr0_1⟩ := K0_1
  obtain ⟨A0_2, c0_2, rfl, hc0_2, hr0_2⟩ := R0_1
  obtain rfl : cs0 = #[.slice A0_0 l0_0.length c0_0, .slice A0_1 l0_1.length c0_1, .slice A0_2 l0_2.length c0_2] := by
    apply Array.toList_inj.1
    have e_ : (Value.agg cs0).cells.toList = _ := e0_0
    rw [e0_1] at e_
    exact e_
  have k1 := h1
  have lt1 : ∀ x ∈ p1, x.block < W.heap.size := by obtain ⟨m, hm⟩ := k1; exact DataW.trod_lt m _ _ _ hm
  obtain ⟨za1, rfl⟩ := okWide_int Tryd.underlying3 (hval 1 3 v1 rfl rfl)
  obtain ⟨a1, hK1, hV1⟩ := opens_arg (V := _) (opens_int Tryd.underlying3 (by kernel_rfl)) hsz (j := 1) (t := 3) rfl rfl h1
  obtain rfl : a1 = za1 := by have e_ : ([.int .i64 za1] : List Value) = [.int .i64 a1] := hK1; simpa using e_.symm
  clear hA0 hval0 hsz0 hsz
  obtain ⟨k, hf⟩ := Pure.KindTypes l0_0 l0_1 l0_2 a1 hV0_0 hV0_1 hV0_2 hV1
  refine (hallmarklaw04_KindTypes.calls A0_0 c0_0 l0_0 A0_1 c0_1 l0_1 A0_2 c0_2 l0_2 a1 true W hr0_0 hc0_0 hr0_1 hc0_1 hr0_2 hc0_2 hf hG).mono fun e W' ⟨he, bel⟩ => ?_
  subst he
  exact ⟨_, rfl, _, _, _, [], _, [], hW', trodAll_mk1 (shut_bool Tryd.underlying4 _), (trodAll_cons_mk (Below.trod laidOut (by kernel_rfl) (of_decide_eq_true (by kernel_rfl)) k0 bel lt0) (trodAll_cons_mk (Below.trod laidOut (by kernel_rfl) (of_decide_eq_true (by kernel_rfl)) k1 bel lt1) trodAll_mk0)), rfl, bel.frame _, fun h => by cases h⟩
theorem over : Rows.kindTypesRow.holds Tryd.pinned (OpenSpec.ofChange Rows.kindTypesSpec) :=
  OpenClaim.holds_of_wide 3 Tryd.f3 rfl rfl rfl rfl rfl rfl rfl ⟨rfl, rfl, rfl, rfl, rfl⟩ rfl rfl rfl rfl rfl (by kernel_rfl) Tryd.func3 (by kernel_rfl)
    (of_decide_eq_true (by kernel_rfl)) (by unfold Func.isWrapper; first | (rw [if_pos (by decide +kernel)]; kernel_rfl) | (rw [if_neg (by decide +kernel)]; exact ⟨rfl, rfl⟩))
    (fun os started H enc _ => lifted os started H enc)
theorem proved : Rows.KindTypesCardSaid :=
  Claim7.holds_tied_plain_at .later [] [.data] true (true, "1e14f1c1a0a7d3f3db0f7dc0f2d8b56a120b03ffd646a7ab17320304e7f6dc2a") false
    over (fun _ h => by cases h) (by kernel_rfl) (fun _ h => by cases h) kindTypes_row_tie rfl ⟨rfl, rfl⟩ (by kernel_rfl) rfl
    (fun f fn hf hfn => by
      obtain rfl : f = 3 := Option.some.inj ((show Tryd.prog.funcNamed "hallmark/hallmarklaw04.KindTypes" = some 3 by kernel_rfl).symm.trans hf) |>.symm
      obtain rfl : fn = Tryd.f3 := (Option.some.inj (Tryd.func3.symm.trans hfn)).symm
      exact ⟨by kernel_rfl, fun j t ht => by
        rw [Tryd.params3] at ht
        have hm : t ∈ [26, 3] := by simpa using Array.mem_of_getElem? ht
        have hall : ([26, 3].all fun u => !Tryd.prog.wantsStandIn u) = true := by kernel_rfl
        exact (show Tryd.prog.wantsStandIn t = false by simpa using List.all_eq_true.1 hall t hm)⟩)
    (by kernel_rfl)
#print axioms proved
end Go.Proofs.YtbjdiaefchcbjaaDoor.kindTypes
namespace Go.Proofs.YtbjdiaefchcbjaaDoor
/-- The card, under a short name, for the claim. -/
theorem kindTypes_holds : Rows.KindTypesCardSaid := kindTypes.proved
end Go.Proofs.YtbjdiaefchcbjaaDoor
