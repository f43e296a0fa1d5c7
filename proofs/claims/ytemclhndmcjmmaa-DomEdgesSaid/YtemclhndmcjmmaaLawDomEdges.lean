-- written by wip/row2.py: the row of the law hallmarklaw08_DomEdges
import Derived.Test.YtemclhndmcjmmaaRows
import Derived.Test.YtemclhndmcjmmaaPDomEdgesx10
import Derived.Test.YtemclhndmcjmmaaPureDomEdges
import Derived.Test.YtemclhndmcjmmaaOpens
import Derived.WalkKit
import Derived.ProofKit
import Derived.OpenShut
import Derived.ShutString
import Derived.ChangeOld
import Derived.Below
import Derived.SizedLaws
namespace Go.Proofs.Ytemclhndmcjmmaa.domEdges
open Go.ChangeShapes Go.WideShapes Go.ChangeAt Go.RowKit Opens PDomEdges Go.Proofs.YtemclhndmcjmmaaW.PrintWords
set_option linter.unusedVariables false
theorem own : ownKnob Try.prog.godebug = none := by kernel_rfl
theorem laidOut : laidOutB Try.prog = true := by kernel_rfl
set_option maxRecDepth 100000 in
theorem lifted (os : Os) (started : os.Started) (H : Type) (enc : TypeId × Value → H) :
    ReturnsInHanded {} Try.checked os 8 .any (Rows.domEdgesSpec.pre6 enc Try.prog Try.f8 Rows.domEdgesRow.domain false) (Rows.domEdgesSpec.post enc Try.prog Try.f8 false true false false) := by
  refine returnsInHanded_of_change_sized (C := Try.checked) own started (by kernel_rfl) Try.func8
    (ChangeSpec.witness6 (enc := enc) (C := Try.checked) false ⟨#[], #[.agg #[.int .i64 0, .slice none 0 0]], []⟩ 8 (by kernel_rfl) (by kernel_rfl) (by kernel_rfl) (by kernel_rfl)) ?_
  intro W base args ds gs before hval0 hW hcnd hsz0 _
  have hsz : (DataW.weightsEach Try.prog (Try.f8.params.toList ++ Rows.domEdgesSpec.plain.varTypes Try.prog) (ds ++ gs)).all (· ≤ reachBytes) = true := hsz0
  have hval : ∀ (j : Nat) t v, Try.f8.params[j]? = some t → args[j]? = some v → Value.okWide Try.prog W .any base t v := hval0
  have hW' := hW
  obtain ⟨p, q, hA0, hV, rfl, hfz, hnd⟩ := hW
  have hA : DataW.TrodAll enc Try.prog W 0 (fun _ => true) true Try.f8.params.toList args.toList ds p := hA0
  rw [Try.params8] at hA hval hsz
  obtain ⟨v0, vs0, d0, ds0, p0, q0, hargs, rfl, rfl, h0, r0⟩ := trodAll_cons hA
  obtain ⟨rfl, rfl, rfl⟩ := trodAll_nil r0
  obtain rfl : args = #[v0] := by cases args; simp_all
  obtain ⟨rfl, rfl⟩ := trodVars_none hV
  have k0 := h0
  have lt0 : ∀ x ∈ p0, x.block < W.heap.size := by obtain ⟨m, hm⟩ := k0; exact DataW.trod_lt m _ _ _ hm
  obtain ⟨cs0, rfl⟩ := okWide_agg Try.underlying24 (hval 0 24 v0 rfl rfl)
  obtain ⟨⟨a0_0, l0_1⟩, hK0, hV0⟩ := opens_arg (V := _) (opens_struct Try.underlying24 (by kernel_rfl) (fields_cons rfl (opens_int Try.underlying3 (by kernel_rfl)) (fields_one rfl (opens_slice Try.underlying22 (by kernel_rfl) opens54 (B := 128) (by kernel_rfl))))) hsz (j := 0) (t := 24) rfl rfl h0
  obtain ⟨hV0_0, hV0_1⟩ := hV0
  obtain ⟨x0_0, y0_0, e0_0, K0_0, R0_0⟩ := hK0
  obtain rfl : x0_0 = [.int .i64 a0_0] := K0_0
  obtain ⟨A0_1, c0_1, rfl, hc0_1, hr0_1⟩ := R0_0
  obtain rfl : cs0 = #[.int .i64 a0_0, .slice A0_1 l0_1.length c0_1] := by
    apply Array.toList_inj.1
    have e_ : (Value.agg cs0).cells.toList = _ := e0_0
    skip
    exact e_
  clear hA0 hval0 hsz0 hsz
  obtain ⟨k, hf⟩ := Pure.DomEdges a0_0 l0_1 hV0_0 hV0_1
  refine (hallmarklaw08_DomEdges.calls k a0_0 A0_1 c0_1 l0_1 true W hr0_1 hc0_1 hf).mono fun e W' ⟨he, bel⟩ => ?_
  subst he
  exact ⟨_, rfl, _, _, _, [], _, [], hW', trodAll_mk1 (shut_bool Try.underlying4 _), (trodAll_cons_mk (Below.trod laidOut (by kernel_rfl) (of_decide_eq_true (by kernel_rfl)) k0 bel lt0) trodAll_mk0), rfl, bel.frame _, fun h => by cases h⟩
theorem over : Rows.domEdgesRow.holds Try.pinned (OpenSpec.ofChange Rows.domEdgesSpec) :=
  OpenClaim.holds_of_wide 8 Try.f8 rfl rfl rfl rfl rfl rfl rfl ⟨rfl, rfl, rfl, rfl, rfl⟩ rfl rfl rfl rfl rfl (by kernel_rfl) Try.func8 (by kernel_rfl)
    (of_decide_eq_true (by kernel_rfl)) (by unfold Func.isWrapper; first | (rw [if_pos (by decide +kernel)]; kernel_rfl) | (rw [if_neg (by decide +kernel)]; exact ⟨rfl, rfl⟩))
    (fun os started H enc _ => lifted os started H enc)
theorem proved : Rows.DomEdgesSaid := over
#print axioms proved
end Go.Proofs.Ytemclhndmcjmmaa.domEdges
namespace Go.Proofs.Ytemclhndmcjmmaa
/-- The row, under a short name, for the claim. -/
theorem domEdges_holds : Rows.DomEdgesSaid := domEdges.proved
end Go.Proofs.Ytemclhndmcjmmaa
