-- written by wip/print2.py
import Derived.Test.YtojmepkhbebllaaDoorPShowProgsx0
import Derived.Test.YtojmepkhbebllaaDoorPShowProgsx2
namespace Go.Proofs.YtojmepkhbebllaaDoor.PShowProgs
open Go.RowKit Go.Proofs.YtojmepkhbebllaaDoorW.PrintWords Go.Proofs.YtojmepkhbebllaaDoorW.PrintLast Go.Proofs.YtojmepkhbebllaaDoorW.PrintMore
attribute [local go_sem] max2_int min2_int max_two min_two max_three min_three max_four min_four   -- for this text's walks alone
set_option linter.unusedVariables false
set_option linter.unusedSimpArgs false

/-! ### hallmarklaw06_lives: function 9 -/
def hallmarklaw06_lives.f  : Option (Bool) := (show_Op.f 3 1 2 0 0 (⟨#[]⟩ : ByteArray) ([] : List Int) false).bind fun t120 => (some (t120.toList == ([97, 114, 105, 116, 104, 32, 97, 100, 100, 32, 118, 49, 32, 118, 50] : List UInt8)))
set_option maxHeartbeats 8000000 in
set_option maxRecDepth 100000 in
theorem hallmarklaw06_lives.calls  (r : Bool) (w : World) (h : hallmarklaw06_lives.f  = some r) (hG : Door.Laid w) :
  Calls Tryd.prog 9 #[] w fun e w' => e = .returned (.bool r) ∧ Below w.heap.size w w' := by
 have hG_ := zm hG
 clear hG
 have hu24 := Tryd.underlying24
 have HB := zm (Below.refl w.heap.size w)
 have H : ((show_Op.f 3 1 2 0 0 (⟨#[]⟩ : ByteArray) ([] : List Int) false).bind fun t120 => (some (t120.toList == ([97, 114, 105, 116, 104, 32, 97, 100, 100, 32, 118, 49, 32, 118, 50] : List UInt8)))) = some r := h
 clear h
 replace H := Option.bind_eq_some_iff.mp H
 obtain ⟨t120, A10, H⟩ := H
 replace H : (some (t120.toList == ([97, 114, 105, 116, 104, 32, 97, 100, 100, 32, 118, 49, 32, 118, 50] : List UInt8))) = some r := H
 have A1 := zm A10
 clear A10
 obtain rfl := Option.some.inj H
 go_enter Tryd.func9, Tryd.ntmps9
 go_wp2_with (first | ((with_reducible refine gate_callee (f := 7) rfl ?_); refine goesL_ (some 2) rfl rfl Tryd.func7 (by kernel_rfl) rfl #[.agg #[.int .i64 3, .int .i64 1, .int .i64 2, .int .i64 0, .int .i64 0, .string (⟨#[]⟩ : ByteArray), .slice none 0 0, .bool false]] rfl (by (try simp only [List.map_toArray, List.map_cons, List.map_nil]); first | done | rfl | (simp only [List.length_drop, List.length_take]; rfl)) ?_; (refine (show_Op.calls 3 1 2 0 0 (⟨#[]⟩ : ByteArray) _ _ ([] : List Int) false t120 _ ?side1 ?side2 A1.out (Door.Laid.on hG_.out (by repeat (first | (with_reducible first | exact HB.out | exact Below.refl _ _ | apply below_alloc | apply pw_below_drewN | apply below_drew1) | exact HB.out | exact Below.refl _ _)))).mono ?_); (case side1 => exact Kd.C_nil _ _); (case side2 => exact Nat.le_refl _); rintro e w2 ⟨rfl, hb⟩; refine ⟨_, rfl, ?_⟩; have n0_ := zm (below_step (by repeat (first | (with_reducible first | exact HB.out | apply below_alloc | apply pw_below_drewN | apply below_drew1) | exact HB.out)) hb); clear HB; have HB := n0_; clear n0_; (try clear hb); (try clear hb2); (try clear hk); (try clear hi)))
 go_ret
 exact ⟨by first | rfl | (simp [errW_none, errW_some] <;> rfl) | (simp [*, errW_none, errW_some] <;> rfl), by repeat (first | (with_reducible first | exact HB.out | apply below_alloc | apply pw_below_drewN | apply below_drew1) | exact HB.out)⟩

end Go.Proofs.YtojmepkhbebllaaDoor.PShowProgs
