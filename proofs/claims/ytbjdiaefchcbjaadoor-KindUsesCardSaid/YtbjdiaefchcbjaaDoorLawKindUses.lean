-- written by wip/row3.py: the row of the law hallmarklaw04_KindUses
import Derived.Test.YtbjdiaefchcbjaaDoorRows
import Derived.Test.YtbjdiaefchcbjaaDoorPKindUsesx11
import Derived.Test.YtbjdiaefchcbjaaDoorPureKindUses
import Derived.Test.YtbjdiaefchcbjaaDoorOpens
import Derived.Test.YtbjdiaefchcbjaaDoorLaidKindUses
import Derived.Test.YtbjdiaefchcbjaaDoorTie
import Derived.Test.YtbjdiaefchcbjaaDoorCards
import Derived.LaidMore
import Derived.Stop.Joined
import Derived.SevenTiedAt
import Derived.LaidHandle
import Derived.ChangeSame
import Derived.WalkKit
import Derived.ProofKit
import Derived.OpenShut
import Derived.ShutString
import Derived.ChangeOld
import Derived.Below
import Derived.SizedLaws
namespace Go.Proofs.YtbjdiaefchcbjaaDoor.kindUses
open Go.ChangeShapes Go.WideShapes Go.ChangeAt Go.RowKit Opens PKindUses Go.Proofs.YtbjdiaefchcbjaaDoorW.PrintWords
set_option linter.unusedVariables false
theorem own : ownKnob Tryd.prog.godebug = none := by kernel_rfl
theorem laidOut : laidOutB Tryd.prog = true := by kernel_rfl
theorem door_met (os : Os) (args : Array Value) : laidMetH Tryd.prog Rows.kindUsesRow.laid ((World.doorLaid Tryd.prog 14 os).forCall (fun _ _ => 0) ⟨#[], args, []⟩).memory :=
  laidMetH_of_parts3 (fuel := 8) (laidMet_of_run' 8 (by kernel_rfl) (by kernel_rfl)) (by kernel_rfl) (by kernel_rfl)
set_option maxRecDepth 100000 in
theorem lifted (os : Os) (started : os.Started) (H : Type) (enc : TypeId × Value → H) :
    ReturnsInHanded {} Tryd.checked os 6 .any (fun w args => (Rows.kindUsesSpec.pre enc Tryd.prog Tryd.f6 [] false w args ∧ laidMetH Tryd.prog Rows.kindUsesRow.laid w) ∧ sizedMet enc Tryd.prog Tryd.f6 (OpenSpec.ofChange Rows.kindUsesSpec) false w args) (Rows.kindUsesSpec.post enc Tryd.prog Tryd.f6 false true false false) := by
  refine returnsInHanded_of_change_and (C := Tryd.checked) (X := fun w _ => laidMetH Tryd.prog Rows.kindUsesRow.laid w) (fun _ _ _ hh h => h.of_heap hh) own started (by kernel_rfl) Tryd.func6
    (ChangeSpec.witness_shaped (enc := enc) (C := Tryd.checked) (os := os) (X := fun w _ => laidMetH Tryd.prog Rows.kindUsesRow.laid w) false (World.doorLaid Tryd.prog 14 os) #[.agg #[.int .i64 0, .int .i64 0, .int .i64 0, .int .i64 0, .int .i64 0, .string ByteArray.empty, .slice none 0 0, .bool false], .slice none 0 0] 8 rfl (World.shaped_of_RefB (by kernel_rfl) (by kernel_rfl)) (by kernel_rfl) (by kernel_rfl) (by kernel_rfl) (door_met os _)) ?_
  intro W base args ds gs before hval0 hW hcnd hsz0 hL _
  rw [MakeChecks.laidMetH_plain _ _ _ (by kernel_rfl)] at hL
  have hG := Door.laid_of hL
  clear hL
  have hsz : (DataW.weightsEach Tryd.prog (Tryd.f6.params.toList ++ Rows.kindUsesSpec.plain.varTypes Tryd.prog) (ds ++ gs)).all (· ≤ reachBytes) = true := hsz0
  have hval : ∀ (j : Nat) t v, Tryd.f6.params[j]? = some t → args[j]? = some v → Value.okWide Tryd.prog W .any base t v := hval0
  have hW' := hW
  obtain ⟨p, q, hA0, hV, rfl, hfz, hnd⟩ := hW
  have hA : DataW.TrodAll enc Tryd.prog W 0 (fun _ => true) true Tryd.f6.params.toList args.toList ds p := hA0
  rw [Tryd.params6] at hA hval hsz
  obtain ⟨v0, vs0, d0, ds0, p0, q0, hargs, rfl, rfl, h0, r0⟩ := trodAll_cons hA
  obtain ⟨v1, vs1, d1, ds1, p1, q1, rfl, rfl, rfl, h1, r1⟩ := trodAll_cons r0
  obtain ⟨rfl, rfl, rfl⟩ := trodAll_nil r1
  obtain rfl : args = #[v0, v1] := by cases args; simp_all
  obtain ⟨rfl, rfl⟩ := trodVars_none hV
  have k0 := h0
  have lt0 : ∀ x ∈ p0, x.block < W.heap.size := by obtain ⟨m, hm⟩ := k0; exact DataW.trod_lt m _ _ _ hm
  obtain ⟨cs0, rfl⟩ := okWide_agg Tryd.underlying33 (hval 0 33 v0 rfl rfl)
  obtain ⟨⟨a0_0, a0_1, a0_2, a0_3, a0_4, a0_5, l0_6, a0_7⟩, hK0, hV0⟩ := opens_arg (V := _) (opens_struct Tryd.underlying33 (by kernel_rfl) (fields_cons rfl (opens_int Tryd.underlying3 (by kernel_rfl)) (fields_cons rfl (opens_int Tryd.underlying3 (by kernel_rfl)) (fields_cons rfl (opens_int Tryd.underlying3 (by kernel_rfl)) (fields_cons rfl (opens_int Tryd.underlying3 (by kernel_rfl)) (fields_cons rfl (opens_int Tryd.underlying2 (by kernel_rfl)) (fields_cons rfl (opens_string Tryd.underlying9 (by kernel_rfl)) (fields_cons rfl (opens_slice Tryd.underlying31 (by kernel_rfl) (opens_int Tryd.underlying3 (by kernel_rfl)) (B := 8) (by kernel_rfl)) (fields_one rfl (opens_bool Tryd.underlying4 (by kernel_rfl))))))))))) hsz (j := 0) (t := 33) rfl rfl h0
  obtain ⟨hV0_0, hV0_1, hV0_2, hV0_3, hV0_4, hV0_5, hV0_6, hV0_7⟩ := hV0
  obtain ⟨x0_0, y0_0, e0_0, K0_0, R0_0⟩ := hK0
  obtain ⟨x0_1, y0_1, e0_1, K0_1, R0_1⟩ := R0_0
  obtain ⟨x0_2, y0_2, e0_2, K0_2, R0_2⟩ := R0_1
  obtain ⟨x0_3, y0_3, e0_3, K0_3, R0_3⟩ := R0_2
  obtain ⟨x0_4, y0_4, e0_4, K0_4, R0_4⟩ := R0_3
  obtain ⟨x0_5, y0_5, e0_5, K0_5, R0_5⟩ := R0_4
  obtain ⟨x0_6, y0_6, e0_6, K0_6, R0_6⟩ := R0_5
  obtain rfl : x0_0 = [.int .i64 a0_0] := K0_0
  obtain rfl : x0_1 = [.int .i64 a0_1] := K0_1
  obtain rfl : x0_2 = [.int .i64 a0_2] := K0_2
  obtain rfl : x0_3 = [.int .i64 a0_3] := K0_3
  obtain rfl : x0_4 = [.int .i64 a0_4] := K0_4
  obtain rfl : x0_5 = [.string a0_5] := K0_5
  obtain ⟨A0_6, c0_6, rfl, hc0_6, hr0_6⟩ := K0_6
  obtain rfl : y0_6 = [.bool a0_7] := R0_6
  obtain rfl : cs0 = #[.int .i64 a0_0, .int .i64 a0_1, .int .i64 a0_2, .int .i64 a0_3, .int .i64 a0_4, .string a0_5, .slice A0_6 l0_6.length c0_6, .bool a0_7] := by
    apply Array.toList_inj.1
    have e_ : (Value.agg cs0).cells.toList = _ := e0_0
    rw [e0_1, e0_2, e0_3, e0_4, e0_5, e0_6] at e_
    exact e_
  have k1 := h1
  have lt1 : ∀ x ∈ p1, x.block < W.heap.size := by obtain ⟨m, hm⟩ := k1; exact DataW.trod_lt m _ _ _ hm
  obtain ⟨za1, zn1, zc1, rfl⟩ := okWide_slice Tryd.underlying31 (hval 1 31 v1 rfl rfl)
  obtain ⟨l1, hK1, hV1⟩ := opens_arg (V := _) (opens_slice Tryd.underlying31 (by kernel_rfl) (opens_int Tryd.underlying3 (by kernel_rfl)) (B := 8) (by kernel_rfl)) hsz (j := 1) (t := 31) rfl rfl h1
  obtain ⟨A1, c1, e1_, hc1, hr1⟩ := hK1
  obtain ⟨rfl, rfl, rfl⟩ : za1 = A1 ∧ zn1 = l1.length ∧ zc1 = c1 := by simpa [Value.cells] using e1_
  clear hA0 hval0 hsz0 hsz
  obtain ⟨k, hf⟩ := Pure.KindUses a0_0 a0_1 a0_2 a0_3 a0_4 a0_5 l0_6 a0_7 l1 hV0_0 hV0_1 hV0_2 hV0_3 hV0_4 hV0_5 hV0_6 hV0_7 hV1
  refine (hallmarklaw04_KindUses.calls k a0_0 a0_1 a0_2 a0_3 a0_4 a0_5 A0_6 c0_6 l0_6 a0_7 za1 zc1 l1 true W hr0_6 hc0_6 hr1 hc1 hf hG).mono fun e W' ⟨he, bel⟩ => ?_
  subst he
  exact ⟨_, rfl, _, _, _, [], _, [], hW', trodAll_mk1 (shut_bool Tryd.underlying4 _), (trodAll_cons_mk (Below.trod laidOut (by kernel_rfl) (of_decide_eq_true (by kernel_rfl)) k0 bel lt0) (trodAll_cons_mk (Below.trod laidOut (by kernel_rfl) (of_decide_eq_true (by kernel_rfl)) k1 bel lt1) trodAll_mk0)), rfl, bel.frame _, fun h => by cases h⟩
theorem over : Rows.kindUsesRow.holds Tryd.pinned (OpenSpec.ofChange Rows.kindUsesSpec) :=
  OpenClaim.holds_of_wide 6 Tryd.f6 rfl rfl rfl rfl rfl rfl rfl ⟨rfl, rfl, rfl, rfl, rfl⟩ rfl rfl rfl rfl rfl (by kernel_rfl) Tryd.func6 (by kernel_rfl)
    (of_decide_eq_true (by kernel_rfl)) (by unfold Func.isWrapper; first | (rw [if_pos (by decide +kernel)]; kernel_rfl) | (rw [if_neg (by decide +kernel)]; exact ⟨rfl, rfl⟩))
    (fun os started H enc _ => lifted os started H enc)
theorem proved : Rows.KindUsesCardSaid :=
  Claim7.holds_tied_plain_at .later [] [.data] true (true, "1e14f1c1a0a7d3f3db0f7dc0f2d8b56a120b03ffd646a7ab17320304e7f6dc2a") false
    over (fun _ h => by cases h) (by kernel_rfl) (fun _ h => by cases h) kindUses_row_tie rfl ⟨rfl, rfl⟩ (by kernel_rfl) rfl
    (fun f fn hf hfn => by
      obtain rfl : f = 6 := Option.some.inj ((show Tryd.prog.funcNamed "hallmark/hallmarklaw04.KindUses" = some 6 by kernel_rfl).symm.trans hf) |>.symm
      obtain rfl : fn = Tryd.f6 := (Option.some.inj (Tryd.func6.symm.trans hfn)).symm
      exact ⟨by kernel_rfl, fun j t ht => by
        rw [Tryd.params6] at ht
        have hm : t ∈ [33, 31] := by simpa using Array.mem_of_getElem? ht
        have hall : ([33, 31].all fun u => !Tryd.prog.wantsStandIn u) = true := by kernel_rfl
        exact (show Tryd.prog.wantsStandIn t = false by simpa using List.all_eq_true.1 hall t hm)⟩)
    (by kernel_rfl)
#print axioms proved
end Go.Proofs.YtbjdiaefchcbjaaDoor.kindUses
namespace Go.Proofs.YtbjdiaefchcbjaaDoor
/-- The card, under a short name, for the claim. -/
theorem kindUses_holds : Rows.KindUsesCardSaid := kindUses.proved
end Go.Proofs.YtbjdiaefchcbjaaDoor
