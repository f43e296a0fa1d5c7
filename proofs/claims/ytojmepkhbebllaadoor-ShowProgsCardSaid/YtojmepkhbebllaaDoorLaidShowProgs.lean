/- What the listed tables hold (ShowProgs): facts of a world that live on. -/
import Derived.Test.YtojmepkhbebllaaDoorRows
import Derived.Lib.LaidTab
import Derived.Lib.ItoaNum
import Derived.WalkSmall
import Derived.Stop.Joined
import Derived.LaidMore
import Derived.Stop.LaidErr
import Derived.Test.YtojmepkhbebllaaDoorWWords
set_option linter.unusedVariables false
namespace Go.Proofs.YtojmepkhbebllaaDoor.Door
open Go Go.RowKit

def strData {H : Type} (ss : List ByteArray) : DataW H := .agg (ss.map fun s => .lit (.string s.data.toList))
theorem cells_of_strs {H : Type} {enc : TypeId × Value → H} {P : Program} {w : World} {base : Nat} {sp : Nat → Bool} {held : Bool} {fuel : Nat} {t e : TypeId} {n : Nat} {cs : List Value} {ss : List ByteArray} {p : List MemPlace}
    (ht : P.underlying t = some (.array n e)) (he : P.underlying e = some .string) (hce : P.cellsOf e = 1) (hct : P.cellsOf t = n)
    (h : DataW.trod enc P w base sp held fuel t cs = some (strData ss, p)) : cs = ss.map Value.string := by
  cases fuel with
  | zero => simp [DataW.trod] at h
  | succ fuel =>
    simp only [DataW.trod, ht, hce, hct, Nat.mul_one] at h
    split at h
    · rename_i hl
      obtain ⟨xs, hm, hx⟩ := Option.map_eq_some_iff.1 h
      have hxs : xs.map (·.1) = ss.map fun s => (DataW.lit (.string s.data.toList) : DataW H) := by
        have := congrArg Prod.fst hx
        simpa [strData] using this
      have hxl : xs.length = n := by simpa using Lib.mapM_length hm
      have hzl : ss.length = n := by
        have := congrArg List.length hxs
        simp at this
        omega
      apply List.ext_getElem?
      intro i
      by_cases hi : i < n
      · obtain ⟨b, hb, hf⟩ := Lib.mapM_at hm i i (by simp [hi])
        obtain ⟨z, hc, hx1, _⟩ := DataW.trod_string he hf
        have h1 : cs[i]? = some (.string z) := by
          have := congrArg (·[0]?) hc
          simpa [List.getElem?_take, List.getElem?_drop] using this
        have h2 : (xs.map (·.1))[i]? = some (DataW.lit (.string z.data.toList) : DataW H) := by simp [hb, hx1]
        rw [hxs] at h2
        simp only [List.getElem?_map, Option.map_eq_some_iff, DataW.lit.injEq, Lit.string.injEq] at h2
        obtain ⟨z', hz', e1⟩ := h2
        have e2 : z' = z := by
          cases z' with | mk a => cases z with | mk b => rw [show a = b from Array.toList_inj.1 e1]
        subst e2
        simp [h1, hz']
      · rw [List.getElem?_eq_none (by omega), List.getElem?_eq_none (by simp; omega)]
    · cases h
theorem strs_of_head {P : Program} {W : World} {name : String} {ss : List ByteArray} {rest : List (String × DataW Unit)} {g : Nat} {t e : TypeId} {n : Nat}
    (hg : P.globalNamed name = some g) (hty : (P.globals[g]?).map (·.type) = some t) (ht : P.underlying t = some (.array n e)) (he : P.underlying e = some .string) (hce : P.cellsOf e = 1) (hct : P.cellsOf t = n)
    (h : laidMet P ((name, strData ss) :: rest) W) : W.var? P name = some (ss.map Value.string).toArray := by
  obtain ⟨ps, ⟨g', t', cs, fuel, p, q, hg', ht', hvar, hd, _, _⟩, _⟩ := h
  obtain rfl := Option.some.inj (hg.symm.trans hg')
  obtain rfl := Option.some.inj (hty.symm.trans ht')
  rw [hvar, ← cells_of_strs ht he hce hct hd]
theorem var_on {P : Program} {w w' : World} {n : String} {g : Nat} {c : Value} {cs : List Value} (hg : P.globalNamed n = some g) (hv : w.var? P n = some (c :: cs).toArray) (hb : Below w.heap.size w w') : w'.var? P n = some (c :: cs).toArray := by
  have h0 := World.var?_cell hg hv 0
  exact var?_below hb hg (World.block_lt_of_cell? (u := c) w ⟨g, 0, none⟩ (by rw [h0]; rfl)) hv

def strconv_uint64pow10_tab : List Int := Lib.pow10Tab
theorem strconv_uint64pow10_g : Tryd.prog.globalNamed "internal/strconv.uint64pow10" = some 4 := by kernel_rfl
def kind_fields_tab : List ByteArray := [⟨#[78]⟩, ⟨#[78]⟩, ⟨#[83]⟩, ⟨#[78, 65, 66]⟩, ⟨#[65]⟩, ⟨#[65, 66]⟩, ⟨#[65]⟩, ⟨#[65, 66]⟩, ⟨#[65, 66]⟩, ⟨#[78, 76, 75]⟩, ⟨#[78, 65]⟩, ⟨#[78, 65, 66]⟩, ⟨#[78, 75]⟩, ⟨#[65]⟩, ⟨#[65]⟩, ⟨#[65, 66]⟩, ⟨#[65, 66, 67]⟩, ⟨#[75]⟩, ⟨#[65, 66, 67]⟩, ⟨#[65, 66]⟩, ⟨#[65]⟩, ⟨#[65, 66]⟩, ⟨#[65]⟩, ⟨#[78, 76]⟩, ⟨#[78, 65, 76]⟩, ⟨#[65]⟩]
theorem kind_fields_g : Tryd.prog.globalNamed "hallmark/kind.fields" = some 3 := by kernel_rfl
def show_types_tab : List ByteArray := [⟨#[110, 111, 110, 101]⟩, ⟨#[105, 110, 116]⟩, ⟨#[98, 111, 111, 108]⟩, ⟨#[116, 101, 120, 116]⟩, ⟨#[115, 108, 105, 99, 101]⟩, ⟨#[116, 97, 98, 108, 101]⟩, ⟨#[102, 97, 99, 101]⟩]
theorem show_types_g : Tryd.prog.globalNamed "hallmark/show.types" = some 2 := by kernel_rfl
def show_steps_tab : List ByteArray := [⟨#[105, 110, 116]⟩, ⟨#[98, 111, 111, 108]⟩, ⟨#[116, 101, 120, 116]⟩, ⟨#[97, 114, 105, 116, 104]⟩, ⟨#[110, 111, 116]⟩, ⟨#[99, 97, 116]⟩, ⟨#[108, 111, 110, 103]⟩, ⟨#[98, 121, 116, 101]⟩, ⟨#[97, 108, 105, 107, 101]⟩, ⟨#[110, 101, 119]⟩, ⟨#[103, 101, 116]⟩, ⟨#[115, 101, 116]⟩, ⟨#[109, 97, 107, 101]⟩, ⟨#[114, 111, 111, 109]⟩, ⟨#[115, 105, 122, 101]⟩, ⟨#[97, 116]⟩, ⟨#[112, 117, 116]⟩, ⟨#[116, 97, 98, 108, 101]⟩, ⟨#[101, 110, 116, 101, 114]⟩, ⟨#[108, 111, 111, 107]⟩, ⟨#[99, 111, 117, 110, 116]⟩, ⟨#[107, 101, 121]⟩, ⟨#[102, 97, 99, 101]⟩, ⟨#[99, 97, 108, 108]⟩, ⟨#[97, 115, 107]⟩, ⟨#[116, 101, 108, 108]⟩]
theorem show_steps_g : Tryd.prog.globalNamed "hallmark/show.steps" = some 0 := by kernel_rfl
def show_signs_tab : List ByteArray := [⟨#[97, 100, 100]⟩, ⟨#[115, 117, 98]⟩, ⟨#[109, 117, 108]⟩, ⟨#[100, 105, 118]⟩, ⟨#[114, 101, 109]⟩, ⟨#[97, 110, 100]⟩, ⟨#[111, 114]⟩, ⟨#[120, 111, 114]⟩, ⟨#[115, 104, 108]⟩, ⟨#[115, 104, 114]⟩, ⟨#[108, 101, 115, 115]⟩, ⟨#[109, 111, 115, 116]⟩, ⟨#[115, 97, 109, 101]⟩, ⟨#[101, 108, 115, 101]⟩]
theorem show_signs_g : Tryd.prog.globalNamed "hallmark/show.signs" = some 1 := by kernel_rfl
/-- The tables hold what the program's text lays. -/
structure Laid (w : World) : Prop where
  strconv_uint64pow10 : w.var? Tryd.prog "internal/strconv.uint64pow10" = some (strconv_uint64pow10_tab.map fun z => Value.int .u64 z).toArray
  kind_fields : w.var? Tryd.prog "hallmark/kind.fields" = some (kind_fields_tab.map Value.string).toArray
  show_types : w.var? Tryd.prog "hallmark/show.types" = some (show_types_tab.map Value.string).toArray
  show_steps : w.var? Tryd.prog "hallmark/show.steps" = some (show_steps_tab.map Value.string).toArray
  show_signs : w.var? Tryd.prog "hallmark/show.signs" = some (show_signs_tab.map Value.string).toArray
theorem Laid.on {w w' : World} (h : Laid w) (hb : Below w.heap.size w w') : Laid w' :=
  { strconv_uint64pow10 := var_on strconv_uint64pow10_g h.strconv_uint64pow10 hb, kind_fields := var_on kind_fields_g h.kind_fields hb, show_types := var_on show_types_g h.show_types hb, show_steps := var_on show_steps_g h.show_steps hb, show_signs := var_on show_signs_g h.show_signs hb }
theorem laid_of {w : World} (h0 : laidMet Tryd.prog Rows.showProgsRow.laid w) : Laid w := by
  have h : laidMet Tryd.prog [("math/bits.deBruijn32tab", Rows.laid_math_bits_deBruijn32tab), ("math/bits.deBruijn64tab", Rows.laid_math_bits_deBruijn64tab), ("internal/strconv.uint64pow10", Rows.laid_internal_strconv_uint64pow10), ("hallmark/kind.fields", Rows.laid_hallmark_kind_fields), ("hallmark/show.types", Rows.laid_hallmark_show_types), ("hallmark/show.steps", Rows.laid_hallmark_show_steps), ("hallmark/show.signs", Rows.laid_hallmark_show_signs)] w := h0
  have e2 : (Rows.laid_internal_strconv_uint64pow10 : DataW Unit) = Lib.tabData .u64 strconv_uint64pow10_tab := by kernel_rfl
  have f2 : w.var? Tryd.prog "internal/strconv.uint64pow10" = _ := (Lib.tabIs_of_head (k := .u64) (zs := strconv_uint64pow10_tab) strconv_uint64pow10_g (t := 123) (e := 82) (n := 20) (by kernel_rfl) Tryd.underlying123 Tryd.underlying82 (by kernel_rfl) (by kernel_rfl) (by have := h.tail.tail; rw [e2] at this; exact this))
  have e3 : (Rows.laid_hallmark_kind_fields : DataW Unit) = strData kind_fields_tab := by kernel_rfl
  have f3 : w.var? Tryd.prog "hallmark/kind.fields" = _ := (strs_of_head (ss := kind_fields_tab) kind_fields_g (t := 79) (e := 9) (n := 26) (by kernel_rfl) Tryd.underlying79 Tryd.underlying9 (by kernel_rfl) (by kernel_rfl) (by have := h.tail.tail.tail; rw [e3] at this; exact this))
  have e4 : (Rows.laid_hallmark_show_types : DataW Unit) = strData show_types_tab := by kernel_rfl
  have f4 : w.var? Tryd.prog "hallmark/show.types" = _ := (strs_of_head (ss := show_types_tab) show_types_g (t := 85) (e := 9) (n := 7) (by kernel_rfl) Tryd.underlying85 Tryd.underlying9 (by kernel_rfl) (by kernel_rfl) (by have := h.tail.tail.tail.tail; rw [e4] at this; exact this))
  have e5 : (Rows.laid_hallmark_show_steps : DataW Unit) = strData show_steps_tab := by kernel_rfl
  have f5 : w.var? Tryd.prog "hallmark/show.steps" = _ := (strs_of_head (ss := show_steps_tab) show_steps_g (t := 79) (e := 9) (n := 26) (by kernel_rfl) Tryd.underlying79 Tryd.underlying9 (by kernel_rfl) (by kernel_rfl) (by have := h.tail.tail.tail.tail.tail; rw [e5] at this; exact this))
  have e6 : (Rows.laid_hallmark_show_signs : DataW Unit) = strData show_signs_tab := by kernel_rfl
  have f6 : w.var? Tryd.prog "hallmark/show.signs" = _ := (strs_of_head (ss := show_signs_tab) show_signs_g (t := 80) (e := 9) (n := 14) (by kernel_rfl) Tryd.underlying80 Tryd.underlying9 (by kernel_rfl) (by kernel_rfl) (by have := h.tail.tail.tail.tail.tail.tail; rw [e6] at this; exact this))
  exact { strconv_uint64pow10 := f2, kind_fields := f3, show_types := f4, show_steps := f5, show_signs := f6 }
theorem Laid.strconv_uint64pow10_at {w : World} (h : Laid w) (i : Nat) (hi : i < 20) : w.cell? ⟨4, i, none⟩ = some (.int .u64 (strconv_uint64pow10_tab.getD i 0)) := by
  have := World.var?_cell strconv_uint64pow10_g h.strconv_uint64pow10 i
  have hl : strconv_uint64pow10_tab.length = 20 := by kernel_rfl
  simpa [List.getD, hl, hi] using this
theorem Laid.kind_fields_at {w : World} (h : Laid w) (i : Nat) (hi : i < 26) : w.cell? ⟨3, i, none⟩ = some (.string (kind_fields_tab.getD i ByteArray.empty)) := by
  have := World.var?_cell kind_fields_g h.kind_fields i
  have hl : kind_fields_tab.length = 26 := by kernel_rfl
  simpa [List.getD, hl, hi] using this
theorem Laid.show_types_at {w : World} (h : Laid w) (i : Nat) (hi : i < 7) : w.cell? ⟨2, i, none⟩ = some (.string (show_types_tab.getD i ByteArray.empty)) := by
  have := World.var?_cell show_types_g h.show_types i
  have hl : show_types_tab.length = 7 := by kernel_rfl
  simpa [List.getD, hl, hi] using this
theorem Laid.show_steps_at {w : World} (h : Laid w) (i : Nat) (hi : i < 26) : w.cell? ⟨0, i, none⟩ = some (.string (show_steps_tab.getD i ByteArray.empty)) := by
  have := World.var?_cell show_steps_g h.show_steps i
  have hl : show_steps_tab.length = 26 := by kernel_rfl
  simpa [List.getD, hl, hi] using this
theorem Laid.show_signs_at {w : World} (h : Laid w) (i : Nat) (hi : i < 14) : w.cell? ⟨1, i, none⟩ = some (.string (show_signs_tab.getD i ByteArray.empty)) := by
  have := World.var?_cell show_signs_g h.show_signs i
  have hl : show_signs_tab.length = 14 := by kernel_rfl
  simpa [List.getD, hl, hi] using this
end Go.Proofs.YtojmepkhbebllaaDoor.Door
