-- written by wip/row3.py: the row of the law hallmarklaw06_ShowProgs
import Derived.Test.YtojmepkhbebllaaDoorRows
import Derived.Test.YtojmepkhbebllaaDoorPShowProgsx15
import Derived.Test.YtojmepkhbebllaaDoorPureShowProgs
import Derived.Test.YtojmepkhbebllaaDoorOpens
import Derived.Test.YtojmepkhbebllaaDoorLaidShowProgs
import Derived.Test.YtojmepkhbebllaaDoorTie
import Derived.Test.YtojmepkhbebllaaDoorCards
import Derived.LaidMore
import Derived.Stop.Joined
import Derived.SevenTiedAt
import Derived.LaidHandle
import Derived.ChangeSame
import Derived.WalkKit
import Derived.ProofKit
import Derived.OpenShut
import Derived.ShutString
import Derived.ChangeOld
import Derived.Below
import Derived.SizedLaws
namespace Go.Proofs.YtojmepkhbebllaaDoor.showProgs
open Go.ChangeShapes Go.WideShapes Go.ChangeAt Go.RowKit Opens PShowProgs Go.Proofs.YtojmepkhbebllaaDoorW.PrintWords
set_option linter.unusedVariables false
theorem own : ownKnob Tryd.prog.godebug = none := by kernel_rfl
theorem laidOut : laidOutB Tryd.prog = true := by kernel_rfl
theorem door_met (os : Os) (args : Array Value) : laidMetH Tryd.prog Rows.showProgsRow.laid ((World.doorLaid Tryd.prog 44 os).forCall (fun _ _ => 0) ⟨#[], args, []⟩).memory :=
  laidMetH_of_parts3 (fuel := 8) (laidMet_of_run' 8 (by kernel_rfl) (by kernel_rfl)) (by kernel_rfl) (by kernel_rfl)
set_option maxRecDepth 100000 in
theorem lifted (os : Os) (started : os.Started) (H : Type) (enc : TypeId × Value → H) :
    ReturnsInHanded {} Tryd.checked os 6 .any (fun w args => (Rows.showProgsSpec.pre enc Tryd.prog Tryd.f6 [] false w args ∧ laidMetH Tryd.prog Rows.showProgsRow.laid w) ∧ sizedMet enc Tryd.prog Tryd.f6 (OpenSpec.ofChange Rows.showProgsSpec) false w args) (Rows.showProgsSpec.post enc Tryd.prog Tryd.f6 false true false false) := by
  refine returnsInHanded_of_change_and (C := Tryd.checked) (X := fun w _ => laidMetH Tryd.prog Rows.showProgsRow.laid w) (fun _ _ _ hh h => h.of_heap hh) own started (by kernel_rfl) Tryd.func6
    (ChangeSpec.witness_shaped (enc := enc) (C := Tryd.checked) (os := os) (X := fun w _ => laidMetH Tryd.prog Rows.showProgsRow.laid w) false (World.doorLaid Tryd.prog 44 os) #[.agg #[.slice none 0 0, .slice none 0 0, .slice none 0 0]] 8 rfl (World.shaped_of_RefB (by kernel_rfl) (by kernel_rfl)) (by kernel_rfl) (by kernel_rfl) (by kernel_rfl) (door_met os _)) ?_
  intro W base args ds gs before hval0 hW hcnd hsz0 hL _
  rw [MakeChecks.laidMetH_plain _ _ _ (by kernel_rfl)] at hL
  have hG := Door.laid_of hL
  clear hL
  have hsz : (DataW.weightsEach Tryd.prog (Tryd.f6.params.toList ++ Rows.showProgsSpec.plain.varTypes Tryd.prog) (ds ++ gs)).all (· ≤ reachBytes) = true := hsz0
  have hval : ∀ (j : Nat) t v, Tryd.f6.params[j]? = some t → args[j]? = some v → Value.okWide Tryd.prog W .any base t v := hval0
  have hW' := hW
  obtain ⟨p, q, hA0, hV, rfl, hfz, hnd⟩ := hW
  have hA : DataW.TrodAll enc Tryd.prog W 0 (fun _ => true) true Tryd.f6.params.toList args.toList ds p := hA0
  rw [Tryd.params6] at hA hval hsz
  obtain ⟨v0, vs0, d0, ds0, p0, q0, hargs, rfl, rfl, h0, r0⟩ := trodAll_cons hA
  obtain ⟨rfl, rfl, rfl⟩ := trodAll_nil r0
  obtain rfl : args = #[v0] := by cases args; simp_all
  obtain ⟨rfl, rfl⟩ := trodVars_none hV
  have k0 := h0
  have lt0 : ∀ x ∈ p0, x.block < W.heap.size := by obtain ⟨m, hm⟩ := k0; exact DataW.trod_lt m _ _ _ hm
  obtain ⟨cs0, rfl⟩ := okWide_agg Tryd.underlying34 (hval 0 34 v0 rfl rfl)
  obtain ⟨⟨l0_0, l0_1, l0_2⟩, hK0, hV0⟩ := opens_arg (V := _) (opens_struct Tryd.underlying34 (by kernel_rfl) (fields_cons rfl (opens_slice Tryd.underlying30 (by kernel_rfl) opens52 (B := 32) (by kernel_rfl)) (fields_cons rfl (opens_slice Tryd.underlying31 (by kernel_rfl) opens54 (B := 48) (by kernel_rfl)) (fields_one rfl (opens_slice Tryd.underlying32 (by kernel_rfl) opens44 (B := 32) (by kernel_rfl)))))) hsz (j := 0) (t := 34) rfl rfl h0
  obtain ⟨hV0_0, hV0_1, hV0_2⟩ := hV0
  obtain ⟨x0_0, y0_0, e0_0, K0_0, R0_0⟩ := hK0
  obtain ⟨x0_1, y0_1, e0_1, K0_1, R0_1⟩ := R0_0
  obtain ⟨A0_0, c0_0, rfl, hc0_0, hr0_0⟩ := K0_0
  obtain ⟨A0_1, c0_1, rfl, hc0_1, hr0_1⟩ := K0_1
  obtain ⟨A0_2, c0_2, rfl, hc0_2, hr0_2⟩ := R0_1
  obtain rfl : cs0 = #[.slice A0_0 l0_0.length c0_0, .slice A0_1 l0_1.length c0_1, .slice A0_2 l0_2.length c0_2] := by
    apply Array.toList_inj.1
    have e_ : (Value.agg cs0).cells.toList = _ := e0_0
    rw [e0_1] at e_
    exact e_
  clear hA0 hval0 hsz0 hsz
  obtain ⟨k, hf⟩ := Pure.ShowProgs l0_0 l0_1 l0_2 hV0_0 hV0_1 hV0_2
  refine (hallmarklaw06_ShowProgs.calls k A0_0 c0_0 l0_0 A0_1 c0_1 l0_1 A0_2 c0_2 l0_2 true W hr0_0 hc0_0 hr0_1 hc0_1 hr0_2 hc0_2 hf hG).mono fun e W' ⟨he, bel⟩ => ?_
  subst he
  exact ⟨_, rfl, _, _, _, [], _, [], hW', trodAll_mk1 (shut_bool Tryd.underlying4 _), (trodAll_cons_mk (Below.trod laidOut (by kernel_rfl) (of_decide_eq_true (by kernel_rfl)) k0 bel lt0) trodAll_mk0), rfl, bel.frame _, fun h => by cases h⟩
theorem over : Rows.showProgsRow.holds Tryd.pinned (OpenSpec.ofChange Rows.showProgsSpec) :=
  OpenClaim.holds_of_wide 6 Tryd.f6 rfl rfl rfl rfl rfl rfl rfl ⟨rfl, rfl, rfl, rfl, rfl⟩ rfl rfl rfl rfl rfl (by kernel_rfl) Tryd.func6 (by kernel_rfl)
    (of_decide_eq_true (by kernel_rfl)) (by unfold Func.isWrapper; first | (rw [if_pos (by decide +kernel)]; kernel_rfl) | (rw [if_neg (by decide +kernel)]; exact ⟨rfl, rfl⟩))
    (fun os started H enc _ => lifted os started H enc)
theorem proved : Rows.ShowProgsCardSaid :=
  Claim7.holds_tied_plain_at .later [] [.data, .data, .data, .data, .data, .widerDeep, .widerDeep] true (true, "c65a91cac27f8eb8109a366072a2eb0cf851acfcf36b3851ec61ae11b2ca1df3") false
    over (fun _ h => by cases h) (by kernel_rfl) (fun _ h => by cases h) showProgs_row_tie rfl ⟨rfl, rfl⟩ (by kernel_rfl) rfl
    (fun f fn hf hfn => by
      obtain rfl : f = 6 := Option.some.inj ((show Tryd.prog.funcNamed "hallmark/hallmarklaw06.ShowProgs" = some 6 by kernel_rfl).symm.trans hf) |>.symm
      obtain rfl : fn = Tryd.f6 := (Option.some.inj (Tryd.func6.symm.trans hfn)).symm
      exact ⟨by kernel_rfl, fun j t ht => by
        rw [Tryd.params6] at ht
        have hm : t ∈ [34] := by simpa using Array.mem_of_getElem? ht
        have hall : ([34].all fun u => !Tryd.prog.wantsStandIn u) = true := by kernel_rfl
        exact (show Tryd.prog.wantsStandIn t = false by simpa using List.all_eq_true.1 hall t hm)⟩)
    (by kernel_rfl)
#print axioms proved
end Go.Proofs.YtojmepkhbebllaaDoor.showProgs
namespace Go.Proofs.YtojmepkhbebllaaDoor
/-- The card, under a short name, for the claim. -/
theorem showProgs_holds : Rows.ShowProgsCardSaid := showProgs.proved
end Go.Proofs.YtojmepkhbebllaaDoor
