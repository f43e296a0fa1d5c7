/- What the listed tables hold (KindResults): facts of a world that live on. -/
import Derived.Test.YtbjdiaefchcbjaaDoorRows
import Derived.Lib.LaidTab
import Derived.Lib.ItoaNum
import Derived.WalkSmall
import Derived.Stop.Joined
import Derived.LaidMore
import Derived.Stop.LaidErr
import Derived.Test.YtbjdiaefchcbjaaDoorWWords
set_option linter.unusedVariables false
namespace Go.Proofs.YtbjdiaefchcbjaaDoor.Door
open Go Go.RowKit

def strData {H : Type} (ss : List ByteArray) : DataW H := .agg (ss.map fun s => .lit (.string s.data.toList))
theorem cells_of_strs {H : Type} {enc : TypeId × Value → H} {P : Program} {w : World} {base : Nat} {sp : Nat → Bool} {held : Bool} {fuel : Nat} {t e : TypeId} {n : Nat} {cs : List Value} {ss : List ByteArray} {p : List MemPlace}
    (ht : P.underlying t = some (.array n e)) (he : P.underlying e = some .string) (hce : P.cellsOf e = 1) (hct : P.cellsOf t = n)
    (h : DataW.trod enc P w base sp held fuel t cs = some (strData ss, p)) : cs = ss.map Value.string := by
  cases fuel with
  | zero => simp [DataW.trod] at h
  | succ fuel =>
    simp only [DataW.trod, ht, hce, hct, Nat.mul_one] at h
    split at h
    · rename_i hl
      obtain ⟨xs, hm, hx⟩ := Option.map_eq_some_iff.1 h
      have hxs : xs.map (·.1) = ss.map fun s => (DataW.lit (.string s.data.toList) : DataW H) := by
        have := congrArg Prod.fst hx
        simpa [strData] using this
      have hxl : xs.length = n := by simpa using Lib.mapM_length hm
      have hzl : ss.length = n := by
        have := congrArg List.length hxs
        simp at this
        omega
      apply List.ext_getElem?
      intro i
      by_cases hi : i < n
      · obtain ⟨b, hb, hf⟩ := Lib.mapM_at hm i i (by simp [hi])
        obtain ⟨z, hc, hx1, _⟩ := DataW.trod_string he hf
        have h1 : cs[i]? = some (.string z) := by
          have := congrArg (·[0]?) hc
          simpa [List.getElem?_take, List.getElem?_drop] using this
        have h2 : (xs.map (·.1))[i]? = some (DataW.lit (.string z.data.toList) : DataW H) := by simp [hb, hx1]
        rw [hxs] at h2
        simp only [List.getElem?_map, Option.map_eq_some_iff, DataW.lit.injEq, Lit.string.injEq] at h2
        obtain ⟨z', hz', e1⟩ := h2
        have e2 : z' = z := by
          cases z' with | mk a => cases z with | mk b => rw [show a = b from Array.toList_inj.1 e1]
        subst e2
        simp [h1, hz']
      · rw [List.getElem?_eq_none (by omega), List.getElem?_eq_none (by simp; omega)]
    · cases h
theorem strs_of_head {P : Program} {W : World} {name : String} {ss : List ByteArray} {rest : List (String × DataW Unit)} {g : Nat} {t e : TypeId} {n : Nat}
    (hg : P.globalNamed name = some g) (hty : (P.globals[g]?).map (·.type) = some t) (ht : P.underlying t = some (.array n e)) (he : P.underlying e = some .string) (hce : P.cellsOf e = 1) (hct : P.cellsOf t = n)
    (h : laidMet P ((name, strData ss) :: rest) W) : W.var? P name = some (ss.map Value.string).toArray := by
  obtain ⟨ps, ⟨g', t', cs, fuel, p, q, hg', ht', hvar, hd, _, _⟩, _⟩ := h
  obtain rfl := Option.some.inj (hg.symm.trans hg')
  obtain rfl := Option.some.inj (hty.symm.trans ht')
  rw [hvar, ← cells_of_strs ht he hce hct hd]
theorem var_on {P : Program} {w w' : World} {n : String} {g : Nat} {c : Value} {cs : List Value} (hg : P.globalNamed n = some g) (hv : w.var? P n = some (c :: cs).toArray) (hb : Below w.heap.size w w') : w'.var? P n = some (c :: cs).toArray := by
  have h0 := World.var?_cell hg hv 0
  exact var?_below hb hg (World.block_lt_of_cell? (u := c) w ⟨g, 0, none⟩ (by rw [h0]; rfl)) hv

def kind_fields_tab : List ByteArray := [⟨#[78]⟩, ⟨#[78]⟩, ⟨#[83]⟩, ⟨#[78, 65, 66]⟩, ⟨#[65]⟩, ⟨#[65, 66]⟩, ⟨#[65]⟩, ⟨#[65, 66]⟩, ⟨#[65, 66]⟩, ⟨#[78, 76, 75]⟩, ⟨#[78, 65]⟩, ⟨#[78, 65, 66]⟩, ⟨#[78, 75]⟩, ⟨#[65]⟩, ⟨#[65]⟩, ⟨#[65, 66]⟩, ⟨#[65, 66, 67]⟩, ⟨#[75]⟩, ⟨#[65, 66, 67]⟩, ⟨#[65, 66]⟩, ⟨#[65]⟩, ⟨#[65, 66]⟩, ⟨#[65]⟩, ⟨#[78, 76]⟩, ⟨#[78, 65, 76]⟩, ⟨#[65]⟩]
theorem kind_fields_g : Tryd.prog.globalNamed "hallmark/kind.fields" = some 0 := by kernel_rfl
/-- The tables hold what the program's text lays. -/
structure Laid (w : World) : Prop where
  kind_fields : w.var? Tryd.prog "hallmark/kind.fields" = some (kind_fields_tab.map Value.string).toArray
theorem Laid.on {w w' : World} (h : Laid w) (hb : Below w.heap.size w w') : Laid w' :=
  { kind_fields := var_on kind_fields_g h.kind_fields hb }
theorem laid_of {w : World} (h0 : laidMet Tryd.prog Rows.kindResultsRow.laid w) : Laid w := by
  have h : laidMet Tryd.prog [("hallmark/kind.fields", Rows.laid_hallmark_kind_fields)] w := h0
  have e0 : (Rows.laid_hallmark_kind_fields : DataW Unit) = strData kind_fields_tab := by kernel_rfl
  have f0 : w.var? Tryd.prog "hallmark/kind.fields" = _ := (strs_of_head (ss := kind_fields_tab) kind_fields_g (t := 57) (e := 9) (n := 26) (by kernel_rfl) Tryd.underlying57 Tryd.underlying9 (by kernel_rfl) (by kernel_rfl) (by have := h; rw [e0] at this; exact this))
  exact { kind_fields := f0 }
theorem Laid.kind_fields_at {w : World} (h : Laid w) (i : Nat) (hi : i < 26) : w.cell? ⟨0, i, none⟩ = some (.string (kind_fields_tab.getD i ByteArray.empty)) := by
  have := World.var?_cell kind_fields_g h.kind_fields i
  have hl : kind_fields_tab.length = 26 := by kernel_rfl
  simpa [List.getD, hl, hi] using this
end Go.Proofs.YtbjdiaefchcbjaaDoor.Door
