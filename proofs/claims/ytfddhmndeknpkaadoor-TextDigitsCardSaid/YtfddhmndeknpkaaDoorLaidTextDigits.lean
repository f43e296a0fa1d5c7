/- What the listed tables hold (TextDigits): facts of a world that live on. -/
import Derived.Test.YtfddhmndeknpkaaDoorRows
import Derived.Lib.LaidTab
import Derived.Lib.ItoaNum
import Derived.WalkSmall
import Derived.Stop.Joined
import Derived.LaidMore
import Derived.Stop.LaidErr
import Derived.Test.YtfddhmndeknpkaaDoorWWords
set_option linter.unusedVariables false
namespace Go.Proofs.YtfddhmndeknpkaaDoor.Door
open Go Go.RowKit

def strData {H : Type} (ss : List ByteArray) : DataW H := .agg (ss.map fun s => .lit (.string s.data.toList))
theorem cells_of_strs {H : Type} {enc : TypeId × Value → H} {P : Program} {w : World} {base : Nat} {sp : Nat → Bool} {held : Bool} {fuel : Nat} {t e : TypeId} {n : Nat} {cs : List Value} {ss : List ByteArray} {p : List MemPlace}
    (ht : P.underlying t = some (.array n e)) (he : P.underlying e = some .string) (hce : P.cellsOf e = 1) (hct : P.cellsOf t = n)
    (h : DataW.trod enc P w base sp held fuel t cs = some (strData ss, p)) : cs = ss.map Value.string := by
  cases fuel with
  | zero => simp [DataW.trod] at h
  | succ fuel =>
    simp only [DataW.trod, ht, hce, hct, Nat.mul_one] at h
    split at h
    · rename_i hl
      obtain ⟨xs, hm, hx⟩ := Option.map_eq_some_iff.1 h
      have hxs : xs.map (·.1) = ss.map fun s => (DataW.lit (.string s.data.toList) : DataW H) := by
        have := congrArg Prod.fst hx
        simpa [strData] using this
      have hxl : xs.length = n := by simpa using Lib.mapM_length hm
      have hzl : ss.length = n := by
        have := congrArg List.length hxs
        simp at this
        omega
      apply List.ext_getElem?
      intro i
      by_cases hi : i < n
      · obtain ⟨b, hb, hf⟩ := Lib.mapM_at hm i i (by simp [hi])
        obtain ⟨z, hc, hx1, _⟩ := DataW.trod_string he hf
        have h1 : cs[i]? = some (.string z) := by
          have := congrArg (·[0]?) hc
          simpa [List.getElem?_take, List.getElem?_drop] using this
        have h2 : (xs.map (·.1))[i]? = some (DataW.lit (.string z.data.toList) : DataW H) := by simp [hb, hx1]
        rw [hxs] at h2
        simp only [List.getElem?_map, Option.map_eq_some_iff, DataW.lit.injEq, Lit.string.injEq] at h2
        obtain ⟨z', hz', e1⟩ := h2
        have e2 : z' = z := by
          cases z' with | mk a => cases z with | mk b => rw [show a = b from Array.toList_inj.1 e1]
        subst e2
        simp [h1, hz']
      · rw [List.getElem?_eq_none (by omega), List.getElem?_eq_none (by simp; omega)]
    · cases h
theorem strs_of_head {P : Program} {W : World} {name : String} {ss : List ByteArray} {rest : List (String × DataW Unit)} {g : Nat} {t e : TypeId} {n : Nat}
    (hg : P.globalNamed name = some g) (hty : (P.globals[g]?).map (·.type) = some t) (ht : P.underlying t = some (.array n e)) (he : P.underlying e = some .string) (hce : P.cellsOf e = 1) (hct : P.cellsOf t = n)
    (h : laidMet P ((name, strData ss) :: rest) W) : W.var? P name = some (ss.map Value.string).toArray := by
  obtain ⟨ps, ⟨g', t', cs, fuel, p, q, hg', ht', hvar, hd, _, _⟩, _⟩ := h
  obtain rfl := Option.some.inj (hg.symm.trans hg')
  obtain rfl := Option.some.inj (hty.symm.trans ht')
  rw [hvar, ← cells_of_strs ht he hce hct hd]
theorem var_on {P : Program} {w w' : World} {n : String} {g : Nat} {c : Value} {cs : List Value} (hg : P.globalNamed n = some g) (hv : w.var? P n = some (c :: cs).toArray) (hb : Below w.heap.size w w') : w'.var? P n = some (c :: cs).toArray := by
  have h0 := World.var?_cell hg hv 0
  exact var?_below hb hg (World.block_lt_of_cell? (u := c) w ⟨g, 0, none⟩ (by rw [h0]; rfl)) hv

def strconv_uint64pow10_tab : List Int := Lib.pow10Tab
theorem strconv_uint64pow10_g : Tryd.prog.globalNamed "internal/strconv.uint64pow10" = some 0 := by kernel_rfl
/-- The tables hold what the program's text lays. -/
structure Laid (w : World) : Prop where
  strconv_uint64pow10 : w.var? Tryd.prog "internal/strconv.uint64pow10" = some (strconv_uint64pow10_tab.map fun z => Value.int .u64 z).toArray
theorem Laid.on {w w' : World} (h : Laid w) (hb : Below w.heap.size w w') : Laid w' :=
  { strconv_uint64pow10 := var_on strconv_uint64pow10_g h.strconv_uint64pow10 hb }
theorem laid_of {w : World} (h0 : laidMet Tryd.prog Rows.textDigitsRow.laid w) : Laid w := by
  have h : laidMet Tryd.prog [("math/bits.deBruijn32tab", Rows.laid_math_bits_deBruijn32tab), ("math/bits.deBruijn64tab", Rows.laid_math_bits_deBruijn64tab), ("internal/strconv.uint64pow10", Rows.laid_internal_strconv_uint64pow10)] w := h0
  have e2 : (Rows.laid_internal_strconv_uint64pow10 : DataW Unit) = Lib.tabData .u64 strconv_uint64pow10_tab := by kernel_rfl
  have f2 : w.var? Tryd.prog "internal/strconv.uint64pow10" = _ := (Lib.tabIs_of_head (k := .u64) (zs := strconv_uint64pow10_tab) strconv_uint64pow10_g (t := 39) (e := 26) (n := 20) (by kernel_rfl) Tryd.underlying39 Tryd.underlying26 (by kernel_rfl) (by kernel_rfl) (by have := h.tail.tail; rw [e2] at this; exact this))
  exact { strconv_uint64pow10 := f2 }
theorem Laid.strconv_uint64pow10_at {w : World} (h : Laid w) (i : Nat) (hi : i < 20) : w.cell? ⟨0, i, none⟩ = some (.int .u64 (strconv_uint64pow10_tab.getD i 0)) := by
  have := World.var?_cell strconv_uint64pow10_g h.strconv_uint64pow10 i
  have hl : strconv_uint64pow10_tab.length = 20 := by kernel_rfl
  simpa [List.getD, hl, hi] using this
end Go.Proofs.YtfddhmndeknpkaaDoor.Door
