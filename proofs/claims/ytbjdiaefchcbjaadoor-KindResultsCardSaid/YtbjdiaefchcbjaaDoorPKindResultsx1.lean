-- written by wip/print2.py
import Derived.Test.YtbjdiaefchcbjaaDoorPKindResultsx0
namespace Go.Proofs.YtbjdiaefchcbjaaDoor.PKindResults
open Go.RowKit Go.Proofs.YtbjdiaefchcbjaaDoorW.PrintWords Go.Proofs.YtbjdiaefchcbjaaDoorW.PrintLast Go.Proofs.YtbjdiaefchcbjaaDoorW.PrintMore
attribute [local go_sem] max2_int min2_int max_two min_two max_three min_three max_four min_four   -- for this text's walks alone
set_option linter.unusedVariables false
set_option linter.unusedSimpArgs false

/-! ### kind_Type: function 8 -/
set_option maxRecDepth 100000 in
theorem kind_Type.nil_face (w : World) : Calls Tryd.prog 8 #[.pointer none, .int .i64 5] w fun e w' => e = .returned (.bool true) ∧ w' = w := by
  go_enter Tryd.func8, Tryd.ntmps8
  go_wp2
  go_ret
  exact ⟨rfl, rfl⟩
set_option maxRecDepth 100000 in
theorem kind_Type.nil_ptr (w : World) : Calls Tryd.prog 8 #[.pointer none, .int .i64 6] w fun e w' => e = .returned (.bool false) ∧ w' = w := by
  go_enter Tryd.func8, Tryd.ntmps8
  go_wp2
  go_ret
  exact ⟨rfl, rfl⟩
def isType (t : Int) (n : Nat) : Bool := decide (0 ≤ t ∧ t ≤ 5 ∨ 6 ≤ t ∧ t - 6 < (n : Int))
set_option maxHeartbeats 1000000 in
set_option maxRecDepth 100000 in
theorem kind_Type.at_ (t : Int) (ht : -9223372036854775808 ≤ t ∧ t ≤ 9223372036854775807) (B n c : Nat) (hn : n ≤ 9223372036854775807) (A : Option Addr) (w : World) (hc : w.cell? ⟨B, 1, none⟩ = some (.slice A n c)) :
    Calls Tryd.prog 8 #[.pointer (some ⟨B, 0, none⟩), .int .i64 t] w fun e w' => e = .returned (.bool (isType t n)) ∧ Drawn0 w w' := by
  by_cases h0 : t < 0
  · have e : isType t n = false := decide_eq_false (by omega)
    have E := Aside0.mk e
    have h1 : ¬ t ≥ 0 := by omega
    have h2 : ¬ t ≥ 6 := by omega
    clear e ht
    go_enter Tryd.func8, Tryd.ntmps8
    go_wp2
    go_ret
    exact ⟨by rw [E.out]; rfl, Drawn0.refl w⟩
  · by_cases h5 : t ≤ 5
    · have e : isType t n = true := decide_eq_true (by omega)
      have E := Aside0.mk e
      have h1 : t ≥ 0 := by omega
      clear e ht
      go_enter Tryd.func8, Tryd.ntmps8
      go_wp2
      go_ret
      exact ⟨by rw [E.out]; rfl, Drawn0.refl w⟩
    · obtain ⟨u, rfl⟩ : ∃ u : Int, t = u + 6 := ⟨t - 6, by omega⟩
      have e : isType (u + 6) n = decide (u < (n : Int)) := by
        unfold isType
        by_cases h : u < (n : Int)
        · rw [decide_eq_true h]; exact decide_eq_true (by omega)
        · rw [decide_eq_false h]; exact decide_eq_false (by omega)
      have E := Aside0.mk e
      have h1 : u + 6 ≥ 0 := by omega
      have h2 : u + 6 ≥ 6 := by omega
      have h3 : wrap64 (u + 6 - 6) = u := by unfold wrap64; omega
      have h4 : ¬ u + 6 ≤ 5 := by omega
      clear e h0 h5
      go_enter Tryd.func8, Tryd.ntmps8
      go_wp2
      go_ret
      exact ⟨by rw [E.out]; rfl, Drawn0.refl w⟩

end Go.Proofs.YtbjdiaefchcbjaaDoor.PKindResults
