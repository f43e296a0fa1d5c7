-- written by wip/print2.py
import Derived.Test.YtojmepkhbebllaaDoorPShowProgsx0
import Derived.Test.YtojmepkhbebllaaDoorPShowProgsx7
import Derived.Test.YtojmepkhbebllaaDoorPShowProgsx8
import Derived.Test.YtojmepkhbebllaaDoorPShowProgsx9
import Derived.Test.YtojmepkhbebllaaDoorPShowProgsx10
namespace Go.Proofs.YtojmepkhbebllaaDoor.PShowProgs
open Go.RowKit Go.Proofs.YtojmepkhbebllaaDoorW.PrintWords Go.Proofs.YtojmepkhbebllaaDoorW.PrintLast Go.Proofs.YtojmepkhbebllaaDoorW.PrintMore
attribute [local go_sem] max2_int min2_int max_two min_two max_three min_three max_four min_four   -- for this text's walks alone
set_option linter.unusedVariables false
set_option linter.unusedSimpArgs false

/-! ### hallmarkref06_Op: function 8 -/
mutual
def hallmarkref06_Op.j0 : Nat → ByteArray → Bool → Int → Int → Int → Int → Int → ByteArray → List Int → Bool → Option (ByteArray)
 | 0, _, _, _, _, _, _, _, _, _, _ => none
 | k + 1, x3, x14, x186000, x186001, x186002, x186003, x186004, x186005, x186006, x186007 => if x14 = true then (if x3.size + 1 ≤ 9223372036854775807 then ((hallmarkref06_word.f k (⟨#[97, 100, 100, 32, 115, 117, 98, 32, 109, 117, 108, 32, 100, 105, 118, 32, 114, 101, 109, 32, 97, 110, 100, 32, 111, 114, 32, 120, 111, 114, 32, 115, 104, 108, 32, 115, 104, 114, 32, 108, 101, 115, 115, 32, 109, 111, 115, 116, 32, 115, 97, 109, 101, 32, 101, 108, 115, 101]⟩ : ByteArray) x186004).bind fun t188 => (if (x3 ++ (⟨#[32]⟩ : ByteArray)).size + t188.size ≤ 9223372036854775807 then (hallmarkref06_Op.j1 k ((x3 ++ (⟨#[32]⟩ : ByteArray)) ++ t188) x186000 x186001 x186002 x186003 x186004 x186005 x186006 x186007) else (none))) else (none)) else ((hallmarkref04_Has.f k x186000 78).bind fun t189 => (if t189 = true then (if x3.size + 1 ≤ 9223372036854775807 then ((hallmarkref02_Digits.f k x186004).bind fun t190 => (if (x3 ++ (⟨#[32]⟩ : ByteArray)).size + t190.size ≤ 9223372036854775807 then (hallmarkref06_Op.j1 k ((x3 ++ (⟨#[32]⟩ : ByteArray)) ++ t190) x186000 x186001 x186002 x186003 x186004 x186005 x186006 x186007) else (none))) else (none)) else (hallmarkref06_Op.j1 k x3 x186000 x186001 x186002 x186003 x186004 x186005 x186006 x186007)))
def hallmarkref06_Op.j1 : Nat → ByteArray → Int → Int → Int → Int → Int → ByteArray → List Int → Bool → Option (ByteArray)
 | 0, _, _, _, _, _, _, _, _, _ => none
 | k + 1, x3, x186000, x186001, x186002, x186003, x186004, x186005, x186006, x186007 => (hallmarkref04_Has.f k x186000 83).bind fun t191 => (if t191 = true then (if x3.size + 1 ≤ 9223372036854775807 then ((hallmarkref02_Quote.f k x186005).bind fun t192 => (if (x3 ++ (⟨#[32]⟩ : ByteArray)).size + t192.size ≤ 9223372036854775807 then (hallmarkref06_Op.j2 k ((x3 ++ (⟨#[32]⟩ : ByteArray)) ++ t192) x186000 x186001 x186002 x186003 x186004 x186005 x186006 x186007) else (none))) else (none)) else (hallmarkref06_Op.j2 k x3 x186000 x186001 x186002 x186003 x186004 x186005 x186006 x186007))
def hallmarkref06_Op.j2 : Nat → ByteArray → Int → Int → Int → Int → Int → ByteArray → List Int → Bool → Option (ByteArray)
 | 0, _, _, _, _, _, _, _, _, _ => none
 | k + 1, x3, x186000, x186001, x186002, x186003, x186004, x186005, x186006, x186007 => (hallmarkref04_Has.f k x186000 65).bind fun t193 => (if t193 = true then (if x3.size + 2 ≤ 9223372036854775807 then ((hallmarkref06_num.f k x186001).bind fun t194 => (if (x3 ++ (⟨#[32, 118]⟩ : ByteArray)).size + t194.size ≤ 9223372036854775807 then (hallmarkref06_Op.j3 k ((x3 ++ (⟨#[32, 118]⟩ : ByteArray)) ++ t194) x186000 x186001 x186002 x186003 x186004 x186005 x186006 x186007) else (none))) else (none)) else (hallmarkref06_Op.j3 k x3 x186000 x186001 x186002 x186003 x186004 x186005 x186006 x186007))
def hallmarkref06_Op.j3 : Nat → ByteArray → Int → Int → Int → Int → Int → ByteArray → List Int → Bool → Option (ByteArray)
 | 0, _, _, _, _, _, _, _, _, _ => none
 | k + 1, x3, x186000, x186001, x186002, x186003, x186004, x186005, x186006, x186007 => (hallmarkref04_Has.f k x186000 66).bind fun t195 => (if t195 = true then (if x3.size + 2 ≤ 9223372036854775807 then ((hallmarkref06_num.f k x186002).bind fun t196 => (if (x3 ++ (⟨#[32, 118]⟩ : ByteArray)).size + t196.size ≤ 9223372036854775807 then (hallmarkref06_Op.j4 k ((x3 ++ (⟨#[32, 118]⟩ : ByteArray)) ++ t196) x186000 x186001 x186002 x186003 x186004 x186005 x186006 x186007) else (none))) else (none)) else (hallmarkref06_Op.j4 k x3 x186000 x186001 x186002 x186003 x186004 x186005 x186006 x186007))
def hallmarkref06_Op.j4 : Nat → ByteArray → Int → Int → Int → Int → Int → ByteArray → List Int → Bool → Option (ByteArray)
 | 0, _, _, _, _, _, _, _, _, _ => none
 | k + 1, x3, x186000, x186001, x186002, x186003, x186004, x186005, x186006, x186007 => (hallmarkref04_Has.f k x186000 67).bind fun t197 => (if t197 = true then (if x3.size + 2 ≤ 9223372036854775807 then ((hallmarkref06_num.f k x186003).bind fun t198 => (if (x3 ++ (⟨#[32, 118]⟩ : ByteArray)).size + t198.size ≤ 9223372036854775807 then (hallmarkref06_Op.j5 k ((x3 ++ (⟨#[32, 118]⟩ : ByteArray)) ++ t198) x186000 x186001 x186002 x186003 x186004 x186005 x186006 x186007) else (none))) else (none)) else (hallmarkref06_Op.j5 k x3 x186000 x186001 x186002 x186003 x186004 x186005 x186006 x186007))
def hallmarkref06_Op.j5 : Nat → ByteArray → Int → Int → Int → Int → Int → ByteArray → List Int → Bool → Option (ByteArray)
 | 0, _, _, _, _, _, _, _, _, _ => none
 | k + 1, x3, x186000, x186001, x186002, x186003, x186004, x186005, x186006, x186007 => (hallmarkref04_Has.f k x186000 76).bind fun t199 => (if t199 = true then (if x3.size + 2 ≤ 9223372036854775807 then ((hallmarkref06_list.f k x186006 1).bind fun t200 => (if (x3 ++ (⟨#[32, 40]⟩ : ByteArray)).size + t200.size ≤ 9223372036854775807 then (if ((x3 ++ (⟨#[32, 40]⟩ : ByteArray)) ++ t200).size + 1 ≤ 9223372036854775807 then ((hallmarkref04_Has.f k x186000 75).bind fun t201 => (if t201 = true then (if x186007 = true then (if (((x3 ++ (⟨#[32, 40]⟩ : ByteArray)) ++ t200) ++ (⟨#[41]⟩ : ByteArray)).size + 6 ≤ 9223372036854775807 then (some ((((x3 ++ (⟨#[32, 40]⟩ : ByteArray)) ++ t200) ++ (⟨#[41]⟩ : ByteArray)) ++ (⟨#[32, 115, 116, 97, 99, 107]⟩ : ByteArray))) else (none)) else (some (((x3 ++ (⟨#[32, 40]⟩ : ByteArray)) ++ t200) ++ (⟨#[41]⟩ : ByteArray)))) else (some (((x3 ++ (⟨#[32, 40]⟩ : ByteArray)) ++ t200) ++ (⟨#[41]⟩ : ByteArray))))) else (none)) else (none))) else (none)) else ((hallmarkref04_Has.f k x186000 75).bind fun t202 => (if t202 = true then (if x186007 = true then (if x3.size + 6 ≤ 9223372036854775807 then (some (x3 ++ (⟨#[32, 115, 116, 97, 99, 107]⟩ : ByteArray))) else (none)) else (some x3)) else (some x3))))
end
def hallmarkref06_Op.f (k : Nat) (a0_0 : Int) (a0_1 : Int) (a0_2 : Int) (a0_3 : Int) (a0_4 : Int) (a0_5 : ByteArray) (l0_6 : List Int) (a0_7 : Bool) : Option (ByteArray) := (hallmarkref06_word.f k (⟨#[105, 110, 116, 32, 98, 111, 111, 108, 32, 116, 101, 120, 116, 32, 97, 114, 105, 116, 104, 32, 110, 111, 116, 32, 99, 97, 116, 32, 108, 111, 110, 103, 32, 98, 121, 116, 101, 32, 97, 108, 105, 107, 101, 32, 110, 101, 119, 32, 103, 101, 116, 32, 115, 101, 116, 32, 109, 97, 107, 101, 32, 114, 111, 111, 109, 32, 115, 105, 122, 101, 32, 97, 116, 32, 112, 117, 116, 32, 116, 97, 98, 108, 101, 32, 101, 110, 116, 101, 114, 32, 108, 111, 111, 107, 32, 99, 111, 117, 110, 116, 32, 107, 101, 121, 32, 102, 97, 99, 101, 32, 99, 97, 108, 108, 32, 97, 115, 107, 32, 116, 101, 108, 108]⟩ : ByteArray) a0_0).bind fun t186 => ((hallmarkref04_Has.f k a0_0 78).bind fun t187 => (if t187 = true then (hallmarkref06_Op.j0 k t186 (a0_0 == 3) a0_0 a0_1 a0_2 a0_3 a0_4 a0_5 l0_6 a0_7) else (hallmarkref06_Op.j0 k t186 false a0_0 a0_1 a0_2 a0_3 a0_4 a0_5 l0_6 a0_7)))
theorem hallmarkref06_Op.mono_l : ∀ k, (∀ y0 y1 y2 y3 y4 y5 y6 y7 y8 y9, LeO (hallmarkref06_Op.j0 k y0 y1 y2 y3 y4 y5 y6 y7 y8 y9) (hallmarkref06_Op.j0 (k + 1) y0 y1 y2 y3 y4 y5 y6 y7 y8 y9)) ∧ (∀ y0 y1 y2 y3 y4 y5 y6 y7 y8, LeO (hallmarkref06_Op.j1 k y0 y1 y2 y3 y4 y5 y6 y7 y8) (hallmarkref06_Op.j1 (k + 1) y0 y1 y2 y3 y4 y5 y6 y7 y8)) ∧ (∀ y0 y1 y2 y3 y4 y5 y6 y7 y8, LeO (hallmarkref06_Op.j2 k y0 y1 y2 y3 y4 y5 y6 y7 y8) (hallmarkref06_Op.j2 (k + 1) y0 y1 y2 y3 y4 y5 y6 y7 y8)) ∧ (∀ y0 y1 y2 y3 y4 y5 y6 y7 y8, LeO (hallmarkref06_Op.j3 k y0 y1 y2 y3 y4 y5 y6 y7 y8) (hallmarkref06_Op.j3 (k + 1) y0 y1 y2 y3 y4 y5 y6 y7 y8)) ∧ (∀ y0 y1 y2 y3 y4 y5 y6 y7 y8, LeO (hallmarkref06_Op.j4 k y0 y1 y2 y3 y4 y5 y6 y7 y8) (hallmarkref06_Op.j4 (k + 1) y0 y1 y2 y3 y4 y5 y6 y7 y8)) ∧ (∀ y0 y1 y2 y3 y4 y5 y6 y7 y8, LeO (hallmarkref06_Op.j5 k y0 y1 y2 y3 y4 y5 y6 y7 y8) (hallmarkref06_Op.j5 (k + 1) y0 y1 y2 y3 y4 y5 y6 y7 y8))
 | 0 => ⟨fun _ _ _ _ _ _ _ _ _ _ r h => by simp [hallmarkref06_Op.j0] at h, fun _ _ _ _ _ _ _ _ _ r h => by simp [hallmarkref06_Op.j1] at h, fun _ _ _ _ _ _ _ _ _ r h => by simp [hallmarkref06_Op.j2] at h, fun _ _ _ _ _ _ _ _ _ r h => by simp [hallmarkref06_Op.j3] at h, fun _ _ _ _ _ _ _ _ _ r h => by simp [hallmarkref06_Op.j4] at h, fun _ _ _ _ _ _ _ _ _ r h => by simp [hallmarkref06_Op.j5] at h⟩
 | k + 1 => by
  obtain ⟨ih0, ih1, ih2, ih3, ih4, ih5⟩ := hallmarkref06_Op.mono_l k
  refine ⟨?_, ?_, ?_, ?_, ?_, ?_⟩
  ·intro y0 y1 y2 y3 y4 y5 y6 y7 y8 y9
   unfold hallmarkref06_Op.j0
   repeat' first
   | (with_reducible exact ih0 _ _ _ _ _ _ _ _ _ _)
   | (with_reducible exact ih1 _ _ _ _ _ _ _ _ _)
   | (with_reducible exact ih2 _ _ _ _ _ _ _ _ _)
   | (with_reducible exact ih3 _ _ _ _ _ _ _ _ _)
   | (with_reducible exact ih4 _ _ _ _ _ _ _ _ _)
   | (with_reducible exact ih5 _ _ _ _ _ _ _ _ _)
   | (with_reducible exact hallmarkref02_Digits.mono _ _)
   | (with_reducible exact hallmarkref02_Quote.mono _ _)
   | (with_reducible exact hallmarkref04_Has.mono _ _ _)
   | (with_reducible exact hallmarkref06_list.mono _ _ _)
   | (with_reducible exact hallmarkref06_num.mono _ _)
   | (with_reducible exact hallmarkref06_word.mono _ _ _)
   | (with_reducible exact LeO.refl _)
   | (with_reducible exact LeO.none _)
   | (with_reducible refine LeO.ite ?_ ?_)
   | (with_reducible refine LeO.bind ?_ (fun _ => ?_))
   | exact ih0 _ _ _ _ _ _ _ _ _ _
   | exact ih1 _ _ _ _ _ _ _ _ _
   | exact ih2 _ _ _ _ _ _ _ _ _
   | exact ih3 _ _ _ _ _ _ _ _ _
   | exact ih4 _ _ _ _ _ _ _ _ _
   | exact ih5 _ _ _ _ _ _ _ _ _
   | exact hallmarkref02_Digits.mono _ _
   | exact hallmarkref02_Quote.mono _ _
   | exact hallmarkref04_Has.mono _ _ _
   | exact hallmarkref06_list.mono _ _ _
   | exact hallmarkref06_num.mono _ _
   | exact hallmarkref06_word.mono _ _ _
   | exact LeO.none _
   | refine LeO.ite ?_ ?_
   | refine LeO.bind ?_ (fun _ => ?_)
  ·intro y0 y1 y2 y3 y4 y5 y6 y7 y8
   unfold hallmarkref06_Op.j1
   repeat' first
   | (with_reducible exact ih0 _ _ _ _ _ _ _ _ _ _)
   | (with_reducible exact ih1 _ _ _ _ _ _ _ _ _)
   | (with_reducible exact ih2 _ _ _ _ _ _ _ _ _)
   | (with_reducible exact ih3 _ _ _ _ _ _ _ _ _)
   | (with_reducible exact ih4 _ _ _ _ _ _ _ _ _)
   | (with_reducible exact ih5 _ _ _ _ _ _ _ _ _)
   | (with_reducible exact hallmarkref02_Digits.mono _ _)
   | (with_reducible exact hallmarkref02_Quote.mono _ _)
   | (with_reducible exact hallmarkref04_Has.mono _ _ _)
   | (with_reducible exact hallmarkref06_list.mono _ _ _)
   | (with_reducible exact hallmarkref06_num.mono _ _)
   | (with_reducible exact hallmarkref06_word.mono _ _ _)
   | (with_reducible exact LeO.refl _)
   | (with_reducible exact LeO.none _)
   | (with_reducible refine LeO.ite ?_ ?_)
   | (with_reducible refine LeO.bind ?_ (fun _ => ?_))
   | exact ih0 _ _ _ _ _ _ _ _ _ _
   | exact ih1 _ _ _ _ _ _ _ _ _
   | exact ih2 _ _ _ _ _ _ _ _ _
   | exact ih3 _ _ _ _ _ _ _ _ _
   | exact ih4 _ _ _ _ _ _ _ _ _
   | exact ih5 _ _ _ _ _ _ _ _ _
   | exact hallmarkref02_Digits.mono _ _
   | exact hallmarkref02_Quote.mono _ _
   | exact hallmarkref04_Has.mono _ _ _
   | exact hallmarkref06_list.mono _ _ _
   | exact hallmarkref06_num.mono _ _
   | exact hallmarkref06_word.mono _ _ _
   | exact LeO.none _
   | refine LeO.ite ?_ ?_
   | refine LeO.bind ?_ (fun _ => ?_)
  ·intro y0 y1 y2 y3 y4 y5 y6 y7 y8
   unfold hallmarkref06_Op.j2
   repeat' first
   | (with_reducible exact ih0 _ _ _ _ _ _ _ _ _ _)
   | (with_reducible exact ih1 _ _ _ _ _ _ _ _ _)
   | (with_reducible exact ih2 _ _ _ _ _ _ _ _ _)
   | (with_reducible exact ih3 _ _ _ _ _ _ _ _ _)
   | (with_reducible exact ih4 _ _ _ _ _ _ _ _ _)
   | (with_reducible exact ih5 _ _ _ _ _ _ _ _ _)
   | (with_reducible exact hallmarkref02_Digits.mono _ _)
   | (with_reducible exact hallmarkref02_Quote.mono _ _)
   | (with_reducible exact hallmarkref04_Has.mono _ _ _)
   | (with_reducible exact hallmarkref06_list.mono _ _ _)
   | (with_reducible exact hallmarkref06_num.mono _ _)
   | (with_reducible exact hallmarkref06_word.mono _ _ _)
   | (with_reducible exact LeO.refl _)
   | (with_reducible exact LeO.none _)
   | (with_reducible refine LeO.ite ?_ ?_)
   | (with_reducible refine LeO.bind ?_ (fun _ => ?_))
   | exact ih0 _ _ _ _ _ _ _ _ _ _
   | exact ih1 _ _ _ _ _ _ _ _ _
   | exact ih2 _ _ _ _ _ _ _ _ _
   | exact ih3 _ _ _ _ _ _ _ _ _
   | exact ih4 _ _ _ _ _ _ _ _ _
   | exact ih5 _ _ _ _ _ _ _ _ _
   | exact hallmarkref02_Digits.mono _ _
   | exact hallmarkref02_Quote.mono _ _
   | exact hallmarkref04_Has.mono _ _ _
   | exact hallmarkref06_list.mono _ _ _
   | exact hallmarkref06_num.mono _ _
   | exact hallmarkref06_word.mono _ _ _
   | exact LeO.none _
   | refine LeO.ite ?_ ?_
   | refine LeO.bind ?_ (fun _ => ?_)
  ·intro y0 y1 y2 y3 y4 y5 y6 y7 y8
   unfold hallmarkref06_Op.j3
   repeat' first
   | (with_reducible exact ih0 _ _ _ _ _ _ _ _ _ _)
   | (with_reducible exact ih1 _ _ _ _ _ _ _ _ _)
   | (with_reducible exact ih2 _ _ _ _ _ _ _ _ _)
   | (with_reducible exact ih3 _ _ _ _ _ _ _ _ _)
   | (with_reducible exact ih4 _ _ _ _ _ _ _ _ _)
   | (with_reducible exact ih5 _ _ _ _ _ _ _ _ _)
   | (with_reducible exact hallmarkref02_Digits.mono _ _)
   | (with_reducible exact hallmarkref02_Quote.mono _ _)
   | (with_reducible exact hallmarkref04_Has.mono _ _ _)
   | (with_reducible exact hallmarkref06_list.mono _ _ _)
   | (with_reducible exact hallmarkref06_num.mono _ _)
   | (with_reducible exact hallmarkref06_word.mono _ _ _)
   | (with_reducible exact LeO.refl _)
   | (with_reducible exact LeO.none _)
   | (with_reducible refine LeO.ite ?_ ?_)
   | (with_reducible refine LeO.bind ?_ (fun _ => ?_))
   | exact ih0 _ _ _ _ _ _ _ _ _ _
   | exact ih1 _ _ _ _ _ _ _ _ _
   | exact ih2 _ _ _ _ _ _ _ _ _
   | exact ih3 _ _ _ _ _ _ _ _ _
   | exact ih4 _ _ _ _ _ _ _ _ _
   | exact ih5 _ _ _ _ _ _ _ _ _
   | exact hallmarkref02_Digits.mono _ _
   | exact hallmarkref02_Quote.mono _ _
   | exact hallmarkref04_Has.mono _ _ _
   | exact hallmarkref06_list.mono _ _ _
   | exact hallmarkref06_num.mono _ _
   | exact hallmarkref06_word.mono _ _ _
   | exact LeO.none _
   | refine LeO.ite ?_ ?_
   | refine LeO.bind ?_ (fun _ => ?_)
  ·intro y0 y1 y2 y3 y4 y5 y6 y7 y8
   unfold hallmarkref06_Op.j4
   repeat' first
   | (with_reducible exact ih0 _ _ _ _ _ _ _ _ _ _)
   | (with_reducible exact ih1 _ _ _ _ _ _ _ _ _)
   | (with_reducible exact ih2 _ _ _ _ _ _ _ _ _)
   | (with_reducible exact ih3 _ _ _ _ _ _ _ _ _)
   | (with_reducible exact ih4 _ _ _ _ _ _ _ _ _)
   | (with_reducible exact ih5 _ _ _ _ _ _ _ _ _)
   | (with_reducible exact hallmarkref02_Digits.mono _ _)
   | (with_reducible exact hallmarkref02_Quote.mono _ _)
   | (with_reducible exact hallmarkref04_Has.mono _ _ _)
   | (with_reducible exact hallmarkref06_list.mono _ _ _)
   | (with_reducible exact hallmarkref06_num.mono _ _)
   | (with_reducible exact hallmarkref06_word.mono _ _ _)
   | (with_reducible exact LeO.refl _)
   | (with_reducible exact LeO.none _)
   | (with_reducible refine LeO.ite ?_ ?_)
   | (with_reducible refine LeO.bind ?_ (fun _ => ?_))
   | exact ih0 _ _ _ _ _ _ _ _ _ _
   | exact ih1 _ _ _ _ _ _ _ _ _
   | exact ih2 _ _ _ _ _ _ _ _ _
   | exact ih3 _ _ _ _ _ _ _ _ _
   | exact ih4 _ _ _ _ _ _ _ _ _
   | exact ih5 _ _ _ _ _ _ _ _ _
   | exact hallmarkref02_Digits.mono _ _
   | exact hallmarkref02_Quote.mono _ _
   | exact hallmarkref04_Has.mono _ _ _
   | exact hallmarkref06_list.mono _ _ _
   | exact hallmarkref06_num.mono _ _
   | exact hallmarkref06_word.mono _ _ _
   | exact LeO.none _
   | refine LeO.ite ?_ ?_
   | refine LeO.bind ?_ (fun _ => ?_)
  ·intro y0 y1 y2 y3 y4 y5 y6 y7 y8
   unfold hallmarkref06_Op.j5
   repeat' first
   | (with_reducible exact ih0 _ _ _ _ _ _ _ _ _ _)
   | (with_reducible exact ih1 _ _ _ _ _ _ _ _ _)
   | (with_reducible exact ih2 _ _ _ _ _ _ _ _ _)
   | (with_reducible exact ih3 _ _ _ _ _ _ _ _ _)
   | (with_reducible exact ih4 _ _ _ _ _ _ _ _ _)
   | (with_reducible exact ih5 _ _ _ _ _ _ _ _ _)
   | (with_reducible exact hallmarkref02_Digits.mono _ _)
   | (with_reducible exact hallmarkref02_Quote.mono _ _)
   | (with_reducible exact hallmarkref04_Has.mono _ _ _)
   | (with_reducible exact hallmarkref06_list.mono _ _ _)
   | (with_reducible exact hallmarkref06_num.mono _ _)
   | (with_reducible exact hallmarkref06_word.mono _ _ _)
   | (with_reducible exact LeO.refl _)
   | (with_reducible exact LeO.none _)
   | (with_reducible refine LeO.ite ?_ ?_)
   | (with_reducible refine LeO.bind ?_ (fun _ => ?_))
   | exact ih0 _ _ _ _ _ _ _ _ _ _
   | exact ih1 _ _ _ _ _ _ _ _ _
   | exact ih2 _ _ _ _ _ _ _ _ _
   | exact ih3 _ _ _ _ _ _ _ _ _
   | exact ih4 _ _ _ _ _ _ _ _ _
   | exact ih5 _ _ _ _ _ _ _ _ _
   | exact hallmarkref02_Digits.mono _ _
   | exact hallmarkref02_Quote.mono _ _
   | exact hallmarkref04_Has.mono _ _ _
   | exact hallmarkref06_list.mono _ _ _
   | exact hallmarkref06_num.mono _ _
   | exact hallmarkref06_word.mono _ _ _
   | exact LeO.none _
   | refine LeO.ite ?_ ?_
   | refine LeO.bind ?_ (fun _ => ?_)
theorem hallmarkref06_Op.mono : ∀ a0 a1 a2 a3 a4 a5 a6 a7 k, LeO (hallmarkref06_Op.f k a0 a1 a2 a3 a4 a5 a6 a7) (hallmarkref06_Op.f (k + 1) a0 a1 a2 a3 a4 a5 a6 a7) := by
 intro a0 a1 a2 a3 a4 a5 a6 a7 k
 obtain ⟨ih0, ih1, ih2, ih3, ih4, ih5⟩ := hallmarkref06_Op.mono_l k
 unfold hallmarkref06_Op.f
 repeat' first
   | (with_reducible exact ih0 _ _ _ _ _ _ _ _ _ _)
   | (with_reducible exact ih1 _ _ _ _ _ _ _ _ _)
   | (with_reducible exact ih2 _ _ _ _ _ _ _ _ _)
   | (with_reducible exact ih3 _ _ _ _ _ _ _ _ _)
   | (with_reducible exact ih4 _ _ _ _ _ _ _ _ _)
   | (with_reducible exact ih5 _ _ _ _ _ _ _ _ _)
   | (with_reducible exact hallmarkref02_Digits.mono _ _)
   | (with_reducible exact hallmarkref02_Quote.mono _ _)
   | (with_reducible exact hallmarkref04_Has.mono _ _ _)
   | (with_reducible exact hallmarkref06_list.mono _ _ _)
   | (with_reducible exact hallmarkref06_num.mono _ _)
   | (with_reducible exact hallmarkref06_word.mono _ _ _)
   | (with_reducible exact LeO.refl _)
   | (with_reducible exact LeO.none _)
   | (with_reducible refine LeO.ite ?_ ?_)
   | (with_reducible refine LeO.bind ?_ (fun _ => ?_))
   | exact ih0 _ _ _ _ _ _ _ _ _ _
   | exact ih1 _ _ _ _ _ _ _ _ _
   | exact ih2 _ _ _ _ _ _ _ _ _
   | exact ih3 _ _ _ _ _ _ _ _ _
   | exact ih4 _ _ _ _ _ _ _ _ _
   | exact ih5 _ _ _ _ _ _ _ _ _
   | exact hallmarkref02_Digits.mono _ _
   | exact hallmarkref02_Quote.mono _ _
   | exact hallmarkref04_Has.mono _ _ _
   | exact hallmarkref06_list.mono _ _ _
   | exact hallmarkref06_num.mono _ _
   | exact hallmarkref06_word.mono _ _ _
   | exact LeO.none _
   | refine LeO.ite ?_ ?_
   | refine LeO.bind ?_ (fun _ => ?_)
set_option maxHeartbeats 8000000 in
set_option maxRecDepth 100000 in
theorem hallmarkref06_Op.calls (k : Nat) (a0_0 : Int) (a0_1 : Int) (a0_2 : Int) (a0_3 : Int) (a0_4 : Int) (a0_5 : ByteArray) (A0_6 : Option Addr) (c0_6 : Nat) (l0_6 : List Int) (a0_7 : Bool) (r : ByteArray) (w : World) (hr0_6 : Kd.C (Kd.int .i64) w A0_6 l0_6.length l0_6) (hc0_6 : l0_6.length ≤ c0_6) (h : hallmarkref06_Op.f k a0_0 a0_1 a0_2 a0_3 a0_4 a0_5 l0_6 a0_7 = some r) :
  Calls Tryd.prog 8 #[.agg #[.int .i64 a0_0, .int .i64 a0_1, .int .i64 a0_2, .int .i64 a0_3, .int .i64 a0_4, .string a0_5, .slice A0_6 l0_6.length c0_6, .bool a0_7]] w fun e w' => e = .returned (.string r) ∧ Below w.heap.size w w' := by
 have hu24 := Tryd.underlying24
 have HR0_6 := zm hr0_6
 have HC0_6 := zm hc0_6
 clear hr0_6 hc0_6
 have HB := zm (Below.refl w.heap.size w)
 have H : ((hallmarkref06_word.f k (⟨#[105, 110, 116, 32, 98, 111, 111, 108, 32, 116, 101, 120, 116, 32, 97, 114, 105, 116, 104, 32, 110, 111, 116, 32, 99, 97, 116, 32, 108, 111, 110, 103, 32, 98, 121, 116, 101, 32, 97, 108, 105, 107, 101, 32, 110, 101, 119, 32, 103, 101, 116, 32, 115, 101, 116, 32, 109, 97, 107, 101, 32, 114, 111, 111, 109, 32, 115, 105, 122, 101, 32, 97, 116, 32, 112, 117, 116, 32, 116, 97, 98, 108, 101, 32, 101, 110, 116, 101, 114, 32, 108, 111, 111, 107, 32, 99, 111, 117, 110, 116, 32, 107, 101, 121, 32, 102, 97, 99, 101, 32, 99, 97, 108, 108, 32, 97, 115, 107, 32, 116, 101, 108, 108]⟩ : ByteArray) a0_0).bind fun t186 => ((hallmarkref04_Has.f k a0_0 78).bind fun t187 => (if t187 = true then (hallmarkref06_Op.j0 k t186 (a0_0 == 3) a0_0 a0_1 a0_2 a0_3 a0_4 a0_5 l0_6 a0_7) else (hallmarkref06_Op.j0 k t186 false a0_0 a0_1 a0_2 a0_3 a0_4 a0_5 l0_6 a0_7)))) = some r := h
 clear h
 replace H := Option.bind_eq_some_iff.mp H
 obtain ⟨t186, A20, H⟩ := H
 replace H : ((hallmarkref04_Has.f k a0_0 78).bind fun t187 => (if t187 = true then (hallmarkref06_Op.j0 k t186 (a0_0 == 3) a0_0 a0_1 a0_2 a0_3 a0_4 a0_5 l0_6 a0_7) else (hallmarkref06_Op.j0 k t186 false a0_0 a0_1 a0_2 a0_3 a0_4 a0_5 l0_6 a0_7))) = some r := H
 have A2 := zm A20
 clear A20
 have HC3 := zm H
 clear H
 go_enter Tryd.func8, Tryd.ntmps8
 go_upto_region 2 with (first | ((with_reducible refine gate_dst (N := 1) rfl ?_); refine box_event ?hg (N := 1) ?hd (cs := #[.int .i64 a0_0, .int .i64 a0_1, .int .i64 a0_2, .int .i64 a0_3, .int .i64 a0_4, .string a0_5, .slice A0_6 l0_6.length c0_6, .bool a0_7]) (t := 24) ?hr ?_; (case hd => rfl); (case hg => rfl); (case hr => first | (go_simp; done) | (go_simp; rfl)); intro gb185 hg w4 hbox hb; have n0_ := zm (below_step (by repeat (first | (with_reducible first | exact HB.out | apply below_alloc | apply pw_below_drewN | apply below_drew1) | exact HB.out)) hb); have n1_ := zm (hbox); have n2_ := zm ((by rw [hg]; exact (below_size (by repeat (first | (with_reducible first | exact HB.out | apply below_alloc | apply pw_below_drewN | apply below_drew1) | exact HB.out))) : w.heap.size ≤ gb185)); have n3_ := zm ((by rw [hg]; exact (below_size (by repeat (first | (with_reducible first | exact HB.out | apply below_alloc | apply pw_below_drewN | apply below_drew1) | exact HB.out))) : w.heap.size ≤ gb185)); clear HB; have HB := n0_; have BK185 := n1_; have GW185 := n2_; have GE185 := n3_; clear n0_ n1_ n2_ n3_; clear hb hbox hg; have hcz5_0 : w4.cell? ⟨gb185, 0, none⟩ = some (.int .i64 a0_0) := (blk_cell BK185.out 0).trans rfl; have hcz5_1 : w4.cell? ⟨gb185, 1, none⟩ = some (.int .i64 a0_1) := (blk_cell BK185.out 1).trans rfl; have hcz5_2 : w4.cell? ⟨gb185, 2, none⟩ = some (.int .i64 a0_2) := (blk_cell BK185.out 2).trans rfl; have hcz5_3 : w4.cell? ⟨gb185, 3, none⟩ = some (.int .i64 a0_3) := (blk_cell BK185.out 3).trans rfl; have hcz5_4 : w4.cell? ⟨gb185, 4, none⟩ = some (.int .i64 a0_4) := (blk_cell BK185.out 4).trans rfl; have hcz5_5 : w4.cell? ⟨gb185, 5, none⟩ = some (.string a0_5) := (blk_cell BK185.out 5).trans rfl; have hcz5_6 : w4.cell? ⟨gb185, 6, none⟩ = some (.slice A0_6 l0_6.length c0_6) := (blk_cell BK185.out 6).trans rfl; have hcz5_7 : w4.cell? ⟨gb185, 7, none⟩ = some (.bool a0_7) := (blk_cell BK185.out 7).trans rfl; have hfz5_0 := blk_frozen BK185.out 0; have hfz5_1 := blk_frozen BK185.out 1; have hfz5_2 := blk_frozen BK185.out 2; have hfz5_3 := blk_frozen BK185.out 3; have hfz5_4 := blk_frozen BK185.out 4; have hfz5_5 := blk_frozen BK185.out 5; have hfz5_6 := blk_frozen BK185.out 6; have hfz5_7 := blk_frozen BK185.out 7) | ((with_reducible refine gate_callee (f := 20) rfl ?_); refine goesL_ (some 6) rfl rfl Tryd.func20 (by kernel_rfl) rfl #[.string (⟨#[105, 110, 116, 32, 98, 111, 111, 108, 32, 116, 101, 120, 116, 32, 97, 114, 105, 116, 104, 32, 110, 111, 116, 32, 99, 97, 116, 32, 108, 111, 110, 103, 32, 98, 121, 116, 101, 32, 97, 108, 105, 107, 101, 32, 110, 101, 119, 32, 103, 101, 116, 32, 115, 101, 116, 32, 109, 97, 107, 101, 32, 114, 111, 111, 109, 32, 115, 105, 122, 101, 32, 97, 116, 32, 112, 117, 116, 32, 116, 97, 98, 108, 101, 32, 101, 110, 116, 101, 114, 32, 108, 111, 111, 107, 32, 99, 111, 117, 110, 116, 32, 107, 101, 121, 32, 102, 97, 99, 101, 32, 99, 97, 108, 108, 32, 97, 115, 107, 32, 116, 101, 108, 108]⟩ : ByteArray), .int .i64 a0_0] rfl (by (try simp only [List.map_toArray, List.map_cons, List.map_nil]); first | done | rfl | (simp only [List.length_drop, List.length_take]; rfl)) ?_; (with_reducible refine (hallmarkref06_word.calls k (⟨#[105, 110, 116, 32, 98, 111, 111, 108, 32, 116, 101, 120, 116, 32, 97, 114, 105, 116, 104, 32, 110, 111, 116, 32, 99, 97, 116, 32, 108, 111, 110, 103, 32, 98, 121, 116, 101, 32, 97, 108, 105, 107, 101, 32, 110, 101, 119, 32, 103, 101, 116, 32, 115, 101, 116, 32, 109, 97, 107, 101, 32, 114, 111, 111, 109, 32, 115, 105, 122, 101, 32, 97, 116, 32, 112, 117, 116, 32, 116, 97, 98, 108, 101, 32, 101, 110, 116, 101, 114, 32, 108, 111, 111, 107, 32, 99, 111, 117, 110, 116, 32, 107, 101, 121, 32, 102, 97, 99, 101, 32, 99, 97, 108, 108, 32, 97, 115, 107, 32, 116, 101, 108, 108]⟩ : ByteArray) a0_0 t186 _ A2.out).mono ?_); rintro e w' ⟨rfl, ⟨nd, rfl⟩⟩; refine ⟨_, rfl, ?_⟩))
 (try simp only [Act.put, List.setIfInBounds_toArray, List.set_cons_zero, List.set_cons_succ])
 go_cut [14] (fun v14 wc => ∃ (kq : Nat) (x14_2 : Bool), v14 = .bool x14_2 ∧ Aside0 (hallmarkref06_Op.j0 kq t186 x14_2 a0_0 a0_1 a0_2 a0_3 a0_4 a0_5 l0_6 a0_7 = some r) ∧ Aside0 (kq ≤ k) ∧ Aside0 (wc.heap[gb185]? = some (.cells #[.int .i64 a0_0, .int .i64 a0_1, .int .i64 a0_2, .int .i64 a0_3, .int .i64 a0_4, .string a0_5, (.slice A0_6 l0_6.length c0_6), .bool a0_7] 24 (0, 0))) ∧ Aside0 (Below w.heap.size w wc))
 case first =>
  have H := HC3.out
  clear HC3
  replace H := Option.bind_eq_some_iff.mp H
  obtain ⟨t187, A60, H⟩ := H
  replace H : (if t187 = true then (hallmarkref06_Op.j0 k t186 (a0_0 == 3) a0_0 a0_1 a0_2 a0_3 a0_4 a0_5 l0_6 a0_7) else (hallmarkref06_Op.j0 k t186 false a0_0 a0_1 a0_2 a0_3 a0_4 a0_5 l0_6 a0_7)) = some r := H
  have A6 := zm A60
  clear A60
  by_cases c7 : t187 = true
  ·subst c7
   have H1 : (hallmarkref06_Op.j0 k t186 (a0_0 == 3) a0_0 a0_1 a0_2 a0_3 a0_4 a0_5 l0_6 a0_7) = some r := by rw [if_pos rfl] at H; exact H
   clear H
   have H := H1
   clear H1
   have H' := zm H
   clear H
   have hcz8_0 : w4.cell? ⟨gb185, 0, none⟩ = some (.int .i64 a0_0) := (blk_cell BK185.out 0).trans rfl
   have hcz8_1 : w4.cell? ⟨gb185, 1, none⟩ = some (.int .i64 a0_1) := (blk_cell BK185.out 1).trans rfl
   have hcz8_2 : w4.cell? ⟨gb185, 2, none⟩ = some (.int .i64 a0_2) := (blk_cell BK185.out 2).trans rfl
   have hcz8_3 : w4.cell? ⟨gb185, 3, none⟩ = some (.int .i64 a0_3) := (blk_cell BK185.out 3).trans rfl
   have hcz8_4 : w4.cell? ⟨gb185, 4, none⟩ = some (.int .i64 a0_4) := (blk_cell BK185.out 4).trans rfl
   have hcz8_5 : w4.cell? ⟨gb185, 5, none⟩ = some (.string a0_5) := (blk_cell BK185.out 5).trans rfl
   have hcz8_6 : w4.cell? ⟨gb185, 6, none⟩ = some (.slice A0_6 l0_6.length c0_6) := (blk_cell BK185.out 6).trans rfl
   have hcz8_7 : w4.cell? ⟨gb185, 7, none⟩ = some (.bool a0_7) := (blk_cell BK185.out 7).trans rfl
   have hfz8_0 := blk_frozen BK185.out 0
   have hfz8_1 := blk_frozen BK185.out 1
   have hfz8_2 := blk_frozen BK185.out 2
   have hfz8_3 := blk_frozen BK185.out 3
   have hfz8_4 := blk_frozen BK185.out 4
   have hfz8_5 := blk_frozen BK185.out 5
   have hfz8_6 := blk_frozen BK185.out 6
   have hfz8_7 := blk_frozen BK185.out 7
   go_wp2_with (first | ((with_reducible refine gate_callee (f := 21) rfl ?_); refine goesL_ (some 9) rfl rfl Tryd.func21 (by kernel_rfl) rfl #[.int .i64 a0_0, .int .u8 78] rfl (by (try simp only [List.map_toArray, List.map_cons, List.map_nil]); first | done | rfl | (simp only [List.length_drop, List.length_take]; rfl)) ?_; (with_reducible refine (hallmarkref04_Has.calls k a0_0 78 true _ A6.out).mono ?_); rintro e w' ⟨rfl, ⟨nd, rfl⟩⟩; refine ⟨_, rfl, ?_⟩))
   go_meet
   case rel => exact ⟨_, ((a0_0 == 3)), (by first | rfl | (simp; done) | (simp [*]; done) | (simp [*, wrap64]; done) | (simp [*]; unfold wrap64; omega)), H', ⟨by first | omega | exact Nat.le_refl _⟩, ⟨by (with_reducible repeat (first | refine blk_drewN ?_ _ | refine blk_drew ?_ | refine blk_alloc ?_ _)); exact BK185.out⟩, ⟨by repeat (first | (with_reducible first | exact HB.out | apply below_alloc | apply pw_below_drewN | apply below_drew1 | refine below_set ?_ GE185.out) | exact HB.out)⟩⟩
  ·replace c7 := Bool.eq_false_iff.mpr c7
   subst c7
   have H1 : (hallmarkref06_Op.j0 k t186 false a0_0 a0_1 a0_2 a0_3 a0_4 a0_5 l0_6 a0_7) = some r := by rw [if_neg (show ¬ (false = true) by decide)] at H; exact H
   clear H
   have H := H1
   clear H1
   have H' := zm H
   clear H
   have hcz9_0 : w4.cell? ⟨gb185, 0, none⟩ = some (.int .i64 a0_0) := (blk_cell BK185.out 0).trans rfl
   have hcz9_1 : w4.cell? ⟨gb185, 1, none⟩ = some (.int .i64 a0_1) := (blk_cell BK185.out 1).trans rfl
   have hcz9_2 : w4.cell? ⟨gb185, 2, none⟩ = some (.int .i64 a0_2) := (blk_cell BK185.out 2).trans rfl
   have hcz9_3 : w4.cell? ⟨gb185, 3, none⟩ = some (.int .i64 a0_3) := (blk_cell BK185.out 3).trans rfl
   have hcz9_4 : w4.cell? ⟨gb185, 4, none⟩ = some (.int .i64 a0_4) := (blk_cell BK185.out 4).trans rfl
   have hcz9_5 : w4.cell? ⟨gb185, 5, none⟩ = some (.string a0_5) := (blk_cell BK185.out 5).trans rfl
   have hcz9_6 : w4.cell? ⟨gb185, 6, none⟩ = some (.slice A0_6 l0_6.length c0_6) := (blk_cell BK185.out 6).trans rfl
   have hcz9_7 : w4.cell? ⟨gb185, 7, none⟩ = some (.bool a0_7) := (blk_cell BK185.out 7).trans rfl
   have hfz9_0 := blk_frozen BK185.out 0
   have hfz9_1 := blk_frozen BK185.out 1
   have hfz9_2 := blk_frozen BK185.out 2
   have hfz9_3 := blk_frozen BK185.out 3
   have hfz9_4 := blk_frozen BK185.out 4
   have hfz9_5 := blk_frozen BK185.out 5
   have hfz9_6 := blk_frozen BK185.out 6
   have hfz9_7 := blk_frozen BK185.out 7
   go_wp2_with (first | ((with_reducible refine gate_callee (f := 21) rfl ?_); refine goesL_ (some 9) rfl rfl Tryd.func21 (by kernel_rfl) rfl #[.int .i64 a0_0, .int .u8 78] rfl (by (try simp only [List.map_toArray, List.map_cons, List.map_nil]); first | done | rfl | (simp only [List.length_drop, List.length_take]; rfl)) ?_; (with_reducible refine (hallmarkref04_Has.calls k a0_0 78 false _ A6.out).mono ?_); rintro e w' ⟨rfl, ⟨nd, rfl⟩⟩; refine ⟨_, rfl, ?_⟩))
   go_meet
   case rel => exact ⟨_, (false), (by first | rfl | (simp; done) | (simp [*]; done) | (simp [*, wrap64]; done) | (simp [*]; unfold wrap64; omega)), H', ⟨by first | omega | exact Nat.le_refl _⟩, ⟨by (with_reducible repeat (first | refine blk_drewN ?_ _ | refine blk_drew ?_ | refine blk_alloc ?_ _)); exact BK185.out⟩, ⟨by repeat (first | (with_reducible first | exact HB.out | apply below_alloc | apply pw_below_drewN | apply below_drew1 | refine below_set ?_ GE185.out) | exact HB.out)⟩⟩
 case rest =>
  clear HC3
  try clear c2
  try clear p2
  try clear c7
  try clear c8
  try clear hcz5_0
  try clear hcz5_1
  try clear hcz5_2
  try clear hcz5_3
  try clear hcz5_4
  try clear hcz5_5
  try clear hcz5_6
  try clear hcz5_7
  try clear hcz8_0
  try clear hcz8_1
  try clear hcz8_2
  try clear hcz8_3
  try clear hcz8_4
  try clear hcz8_5
  try clear hcz8_6
  try clear hcz8_7
  try clear hcz9_0
  try clear hcz9_1
  try clear hcz9_2
  try clear hcz9_3
  try clear hcz9_4
  try clear hcz9_5
  try clear hcz9_6
  try clear hcz9_7
  try clear hfz5_0
  try clear hfz5_1
  try clear hfz5_2
  try clear hfz5_3
  try clear hfz5_4
  try clear hfz5_5
  try clear hfz5_6
  try clear hfz5_7
  try clear hfz8_0
  try clear hfz8_1
  try clear hfz8_2
  try clear hfz8_3
  try clear hfz8_4
  try clear hfz8_5
  try clear hfz8_6
  try clear hfz8_7
  try clear hfz9_0
  try clear hfz9_1
  try clear hfz9_2
  try clear hfz9_3
  try clear hfz9_4
  try clear hfz9_5
  try clear hfz9_6
  try clear hfz9_7
  obtain ⟨kq, x14_2, rfl, HA, HJ2, BK185, HB⟩ := hcut
  cases kq with
  | zero => exact absurd HA.out (by simp [hallmarkref06_Op.j0])
  | succ kj2 =>
   have H := HA.out
   clear HA
   simp only [hallmarkref06_Op.j0] at H
   have HC10 := zm H
   clear H
   go_upto_if 14 with (fail)
   go_cut [3] (fun v3 wc => ∃ (kq : Nat) (x3_9 : ByteArray), v3 = .string x3_9 ∧ Aside0 (hallmarkref06_Op.j1 kq x3_9 a0_0 a0_1 a0_2 a0_3 a0_4 a0_5 l0_6 a0_7 = some r) ∧ Aside0 (kq ≤ kj2) ∧ Aside0 (wc.heap[gb185]? = some (.cells #[.int .i64 a0_0, .int .i64 a0_1, .int .i64 a0_2, .int .i64 a0_3, .int .i64 a0_4, .string a0_5, (.slice A0_6 l0_6.length c0_6), .bool a0_7] 24 (0, 0))) ∧ Aside0 (Below w.heap.size w wc))
   case first =>
    have H := HC10.out
    clear HC10
    by_cases c11 : x14_2 = true
    ·subst c11
     have H1 : (if t186.size + 1 ≤ 9223372036854775807 then ((hallmarkref06_word.f kj2 (⟨#[97, 100, 100, 32, 115, 117, 98, 32, 109, 117, 108, 32, 100, 105, 118, 32, 114, 101, 109, 32, 97, 110, 100, 32, 111, 114, 32, 120, 111, 114, 32, 115, 104, 108, 32, 115, 104, 114, 32, 108, 101, 115, 115, 32, 109, 111, 115, 116, 32, 115, 97, 109, 101, 32, 101, 108, 115, 101]⟩ : ByteArray) a0_4).bind fun t188 => (if (t186 ++ (⟨#[32]⟩ : ByteArray)).size + t188.size ≤ 9223372036854775807 then (hallmarkref06_Op.j1 kj2 ((t186 ++ (⟨#[32]⟩ : ByteArray)) ++ t188) a0_0 a0_1 a0_2 a0_3 a0_4 a0_5 l0_6 a0_7) else (none))) else (none)) = some r := by rw [if_pos rfl] at H; exact H
     clear H
     have H := H1
     clear H1
     by_cases c12 : t186.size + 1 ≤ 9223372036854775807
     ·rw [if_pos c12] at H
      have c12b0 := eq_true c12
      have c12b1 : decide (t186.size + 1 ≤ 9223372036854775807) = true := decide_eq_true c12
      try have c12b2 : (9223372036854775807 < t186.size + 1) = False := eq_false (Nat.not_lt.2 c12)
      replace H := Option.bind_eq_some_iff.mp H
      obtain ⟨t188, A130, H⟩ := H
      replace H : (if (t186 ++ (⟨#[32]⟩ : ByteArray)).size + t188.size ≤ 9223372036854775807 then (hallmarkref06_Op.j1 kj2 ((t186 ++ (⟨#[32]⟩ : ByteArray)) ++ t188) a0_0 a0_1 a0_2 a0_3 a0_4 a0_5 l0_6 a0_7) else (none)) = some r := H
      have A13 := zm A130
      clear A130
      by_cases c14 : (t186 ++ (⟨#[32]⟩ : ByteArray)).size + t188.size ≤ 9223372036854775807
      ·rw [if_pos c14] at H
       have c14b0 := eq_true c14
       have c14b1 : decide ((t186 ++ (⟨#[32]⟩ : ByteArray)).size + t188.size ≤ 9223372036854775807) = true := decide_eq_true c14
       have c14n := c14
       simp only [ByteArray.size_append, show (⟨#[32]⟩ : ByteArray).size = 1 from rfl] at c14n
       have c14n0 := eq_true c14n
       have c14n1 := decide_eq_true c14n
       have c14n2 := eq_false (Nat.not_lt.2 c14n)
       clear c14n
       try have c14b2 : (9223372036854775807 < (t186 ++ (⟨#[32]⟩ : ByteArray)).size + t188.size) = False := eq_false (Nat.not_lt.2 c14)
       have H' := zm H
       clear H
       have hcz15_0 : wc.cell? ⟨gb185, 0, none⟩ = some (.int .i64 a0_0) := (blk_cell BK185.out 0).trans rfl
       have hcz15_1 : wc.cell? ⟨gb185, 1, none⟩ = some (.int .i64 a0_1) := (blk_cell BK185.out 1).trans rfl
       have hcz15_2 : wc.cell? ⟨gb185, 2, none⟩ = some (.int .i64 a0_2) := (blk_cell BK185.out 2).trans rfl
       have hcz15_3 : wc.cell? ⟨gb185, 3, none⟩ = some (.int .i64 a0_3) := (blk_cell BK185.out 3).trans rfl
       have hcz15_4 : wc.cell? ⟨gb185, 4, none⟩ = some (.int .i64 a0_4) := (blk_cell BK185.out 4).trans rfl
       have hcz15_5 : wc.cell? ⟨gb185, 5, none⟩ = some (.string a0_5) := (blk_cell BK185.out 5).trans rfl
       have hcz15_6 : wc.cell? ⟨gb185, 6, none⟩ = some (.slice A0_6 l0_6.length c0_6) := (blk_cell BK185.out 6).trans rfl
       have hcz15_7 : wc.cell? ⟨gb185, 7, none⟩ = some (.bool a0_7) := (blk_cell BK185.out 7).trans rfl
       have hfz15_0 := blk_frozen BK185.out 0
       have hfz15_1 := blk_frozen BK185.out 1
       have hfz15_2 := blk_frozen BK185.out 2
       have hfz15_3 := blk_frozen BK185.out 3
       have hfz15_4 := blk_frozen BK185.out 4
       have hfz15_5 := blk_frozen BK185.out 5
       have hfz15_6 := blk_frozen BK185.out 6
       have hfz15_7 := blk_frozen BK185.out 7
       go_wp2_with (first | ((with_reducible refine gate_callee (f := 20) rfl ?_); refine goesL_ (some 19) rfl rfl Tryd.func20 (by kernel_rfl) rfl #[.string (⟨#[97, 100, 100, 32, 115, 117, 98, 32, 109, 117, 108, 32, 100, 105, 118, 32, 114, 101, 109, 32, 97, 110, 100, 32, 111, 114, 32, 120, 111, 114, 32, 115, 104, 108, 32, 115, 104, 114, 32, 108, 101, 115, 115, 32, 109, 111, 115, 116, 32, 115, 97, 109, 101, 32, 101, 108, 115, 101]⟩ : ByteArray), .int .i64 a0_4] rfl (by (try simp only [List.map_toArray, List.map_cons, List.map_nil]); first | done | rfl | (simp only [List.length_drop, List.length_take]; rfl)) ?_; (with_reducible refine (hallmarkref06_word.calls kj2 (⟨#[97, 100, 100, 32, 115, 117, 98, 32, 109, 117, 108, 32, 100, 105, 118, 32, 114, 101, 109, 32, 97, 110, 100, 32, 111, 114, 32, 120, 111, 114, 32, 115, 104, 108, 32, 115, 104, 114, 32, 108, 101, 115, 115, 32, 109, 111, 115, 116, 32, 115, 97, 109, 101, 32, 101, 108, 115, 101]⟩ : ByteArray) a0_4 t188 _ A13.out).mono ?_); rintro e w' ⟨rfl, ⟨nd, rfl⟩⟩; refine ⟨_, rfl, ?_⟩))
       go_meet
       case rel => exact ⟨_, ((t186 ++ (⟨#[32]⟩ : ByteArray)) ++ t188), (by first | rfl | (simp; done) | (simp [*]; done) | (simp [*, wrap64]; done) | (simp [*]; unfold wrap64; omega)), H', ⟨by have := HJ2.out; first | omega | exact Nat.le_refl _⟩, ⟨by (with_reducible repeat (first | refine blk_drewN ?_ _ | refine blk_drew ?_ | refine blk_alloc ?_ _)); exact BK185.out⟩, ⟨by repeat (first | (with_reducible first | exact HB.out | apply below_alloc | apply pw_below_drewN | apply below_drew1 | refine below_set ?_ GE185.out) | exact HB.out)⟩⟩
      ·rw [if_neg c14] at H
       exact absurd H (by simp)
     ·rw [if_neg c12] at H
      exact absurd H (by simp)
    ·replace c11 := Bool.eq_false_iff.mpr c11
     subst c11
     have H1 : ((hallmarkref04_Has.f kj2 a0_0 78).bind fun t189 => (if t189 = true then (if t186.size + 1 ≤ 9223372036854775807 then ((hallmarkref02_Digits.f kj2 a0_4).bind fun t190 => (if (t186 ++ (⟨#[32]⟩ : ByteArray)).size + t190.size ≤ 9223372036854775807 then (hallmarkref06_Op.j1 kj2 ((t186 ++ (⟨#[32]⟩ : ByteArray)) ++ t190) a0_0 a0_1 a0_2 a0_3 a0_4 a0_5 l0_6 a0_7) else (none))) else (none)) else (hallmarkref06_Op.j1 kj2 t186 a0_0 a0_1 a0_2 a0_3 a0_4 a0_5 l0_6 a0_7))) = some r := by rw [if_neg (show ¬ (false = true) by decide)] at H; exact H
     clear H
     have H := H1
     clear H1
     replace H := Option.bind_eq_some_iff.mp H
     obtain ⟨t189, A160, H⟩ := H
     replace H : (if t189 = true then (if t186.size + 1 ≤ 9223372036854775807 then ((hallmarkref02_Digits.f kj2 a0_4).bind fun t190 => (if (t186 ++ (⟨#[32]⟩ : ByteArray)).size + t190.size ≤ 9223372036854775807 then (hallmarkref06_Op.j1 kj2 ((t186 ++ (⟨#[32]⟩ : ByteArray)) ++ t190) a0_0 a0_1 a0_2 a0_3 a0_4 a0_5 l0_6 a0_7) else (none))) else (none)) else (hallmarkref06_Op.j1 kj2 t186 a0_0 a0_1 a0_2 a0_3 a0_4 a0_5 l0_6 a0_7)) = some r := H
     have A16 := zm A160
     clear A160
     by_cases c17 : t189 = true
     ·subst c17
      have H1 : (if t186.size + 1 ≤ 9223372036854775807 then ((hallmarkref02_Digits.f kj2 a0_4).bind fun t190 => (if (t186 ++ (⟨#[32]⟩ : ByteArray)).size + t190.size ≤ 9223372036854775807 then (hallmarkref06_Op.j1 kj2 ((t186 ++ (⟨#[32]⟩ : ByteArray)) ++ t190) a0_0 a0_1 a0_2 a0_3 a0_4 a0_5 l0_6 a0_7) else (none))) else (none)) = some r := by rw [if_pos rfl] at H; exact H
      clear H
      have H := H1
      clear H1
      by_cases c18 : t186.size + 1 ≤ 9223372036854775807
      ·rw [if_pos c18] at H
       have c18b0 := eq_true c18
       have c18b1 : decide (t186.size + 1 ≤ 9223372036854775807) = true := decide_eq_true c18
       try have c18b2 : (9223372036854775807 < t186.size + 1) = False := eq_false (Nat.not_lt.2 c18)
       replace H := Option.bind_eq_some_iff.mp H
       obtain ⟨t190, A190, H⟩ := H
       replace H : (if (t186 ++ (⟨#[32]⟩ : ByteArray)).size + t190.size ≤ 9223372036854775807 then (hallmarkref06_Op.j1 kj2 ((t186 ++ (⟨#[32]⟩ : ByteArray)) ++ t190) a0_0 a0_1 a0_2 a0_3 a0_4 a0_5 l0_6 a0_7) else (none)) = some r := H
       have A19 := zm A190
       clear A190
       by_cases c20 : (t186 ++ (⟨#[32]⟩ : ByteArray)).size + t190.size ≤ 9223372036854775807
       ·rw [if_pos c20] at H
        have c20b0 := eq_true c20
        have c20b1 : decide ((t186 ++ (⟨#[32]⟩ : ByteArray)).size + t190.size ≤ 9223372036854775807) = true := decide_eq_true c20
        have c20n := c20
        simp only [ByteArray.size_append, show (⟨#[32]⟩ : ByteArray).size = 1 from rfl] at c20n
        have c20n0 := eq_true c20n
        have c20n1 := decide_eq_true c20n
        have c20n2 := eq_false (Nat.not_lt.2 c20n)
        clear c20n
        try have c20b2 : (9223372036854775807 < (t186 ++ (⟨#[32]⟩ : ByteArray)).size + t190.size) = False := eq_false (Nat.not_lt.2 c20)
        have H' := zm H
        clear H
        have hcz21_0 : wc.cell? ⟨gb185, 0, none⟩ = some (.int .i64 a0_0) := (blk_cell BK185.out 0).trans rfl
        have hcz21_1 : wc.cell? ⟨gb185, 1, none⟩ = some (.int .i64 a0_1) := (blk_cell BK185.out 1).trans rfl
        have hcz21_2 : wc.cell? ⟨gb185, 2, none⟩ = some (.int .i64 a0_2) := (blk_cell BK185.out 2).trans rfl
        have hcz21_3 : wc.cell? ⟨gb185, 3, none⟩ = some (.int .i64 a0_3) := (blk_cell BK185.out 3).trans rfl
        have hcz21_4 : wc.cell? ⟨gb185, 4, none⟩ = some (.int .i64 a0_4) := (blk_cell BK185.out 4).trans rfl
        have hcz21_5 : wc.cell? ⟨gb185, 5, none⟩ = some (.string a0_5) := (blk_cell BK185.out 5).trans rfl
        have hcz21_6 : wc.cell? ⟨gb185, 6, none⟩ = some (.slice A0_6 l0_6.length c0_6) := (blk_cell BK185.out 6).trans rfl
        have hcz21_7 : wc.cell? ⟨gb185, 7, none⟩ = some (.bool a0_7) := (blk_cell BK185.out 7).trans rfl
        have hfz21_0 := blk_frozen BK185.out 0
        have hfz21_1 := blk_frozen BK185.out 1
        have hfz21_2 := blk_frozen BK185.out 2
        have hfz21_3 := blk_frozen BK185.out 3
        have hfz21_4 := blk_frozen BK185.out 4
        have hfz21_5 := blk_frozen BK185.out 5
        have hfz21_6 := blk_frozen BK185.out 6
        have hfz21_7 := blk_frozen BK185.out 7
        go_wp2_with (first | ((with_reducible refine gate_callee (f := 21) rfl ?_); refine goesL_ (some 23) rfl rfl Tryd.func21 (by kernel_rfl) rfl #[.int .i64 a0_0, .int .u8 78] rfl (by (try simp only [List.map_toArray, List.map_cons, List.map_nil]); first | done | rfl | (simp only [List.length_drop, List.length_take]; rfl)) ?_; (with_reducible refine (hallmarkref04_Has.calls kj2 a0_0 78 true _ A16.out).mono ?_); rintro e w' ⟨rfl, ⟨nd, rfl⟩⟩; refine ⟨_, rfl, ?_⟩) | ((with_reducible refine gate_callee (f := 22) rfl ?_); refine goesL_ (some 28) rfl rfl Tryd.func22 (by kernel_rfl) rfl #[.int .i64 a0_4] rfl (by (try simp only [List.map_toArray, List.map_cons, List.map_nil]); first | done | rfl | (simp only [List.length_drop, List.length_take]; rfl)) ?_; (with_reducible refine (hallmarkref02_Digits.calls kj2 a0_4 t190 _ A19.out).mono ?_); rintro e w22 ⟨rfl, hb⟩; refine ⟨_, rfl, ?_⟩; have n0_ := zm (blk_below (g := gb185) (o := .cells #[.int .i64 a0_0, .int .i64 a0_1, .int .i64 a0_2, .int .i64 a0_3, .int .i64 a0_4, .string a0_5, .slice A0_6 l0_6.length c0_6, .bool a0_7] 24 (0, 0)) (by (with_reducible repeat (first | refine blk_drewN ?_ _ | refine blk_drew ?_ | refine blk_alloc ?_ _)); exact BK185.out) hb); have n1_ := zm (below_step (by repeat (first | (with_reducible first | exact HB.out | apply below_alloc | apply pw_below_drewN | apply below_drew1 | refine below_set ?_ GE185.out) | exact HB.out)) hb); clear BK185; clear HB; have BK185 := n0_; have HB := n1_; clear n0_ n1_; (try clear hb); (try clear hb2); (try clear hk); (try clear hi)))
        go_meet
        case rel => exact ⟨_, ((t186 ++ (⟨#[32]⟩ : ByteArray)) ++ t190), (by first | rfl | (simp; done) | (simp [*]; done) | (simp [*, wrap64]; done) | (simp [*]; unfold wrap64; omega)), H', ⟨by have := HJ2.out; first | omega | exact Nat.le_refl _⟩, ⟨by (with_reducible repeat (first | refine blk_drewN ?_ _ | refine blk_drew ?_ | refine blk_alloc ?_ _)); exact BK185.out⟩, ⟨by repeat (first | (with_reducible first | exact HB.out | apply below_alloc | apply pw_below_drewN | apply below_drew1 | refine below_set ?_ GE185.out) | exact HB.out)⟩⟩
       ·rw [if_neg c20] at H
        exact absurd H (by simp)
      ·rw [if_neg c18] at H
       exact absurd H (by simp)
     ·replace c17 := Bool.eq_false_iff.mpr c17
      subst c17
      have H1 : (hallmarkref06_Op.j1 kj2 t186 a0_0 a0_1 a0_2 a0_3 a0_4 a0_5 l0_6 a0_7) = some r := by rw [if_neg (show ¬ (false = true) by decide)] at H; exact H
      clear H
      have H := H1
      clear H1
      have H' := zm H
      clear H
      have hcz23_0 : wc.cell? ⟨gb185, 0, none⟩ = some (.int .i64 a0_0) := (blk_cell BK185.out 0).trans rfl
      have hcz23_1 : wc.cell? ⟨gb185, 1, none⟩ = some (.int .i64 a0_1) := (blk_cell BK185.out 1).trans rfl
      have hcz23_2 : wc.cell? ⟨gb185, 2, none⟩ = some (.int .i64 a0_2) := (blk_cell BK185.out 2).trans rfl
      have hcz23_3 : wc.cell? ⟨gb185, 3, none⟩ = some (.int .i64 a0_3) := (blk_cell BK185.out 3).trans rfl
      have hcz23_4 : wc.cell? ⟨gb185, 4, none⟩ = some (.int .i64 a0_4) := (blk_cell BK185.out 4).trans rfl
      have hcz23_5 : wc.cell? ⟨gb185, 5, none⟩ = some (.string a0_5) := (blk_cell BK185.out 5).trans rfl
      have hcz23_6 : wc.cell? ⟨gb185, 6, none⟩ = some (.slice A0_6 l0_6.length c0_6) := (blk_cell BK185.out 6).trans rfl
      have hcz23_7 : wc.cell? ⟨gb185, 7, none⟩ = some (.bool a0_7) := (blk_cell BK185.out 7).trans rfl
      have hfz23_0 := blk_frozen BK185.out 0
      have hfz23_1 := blk_frozen BK185.out 1
      have hfz23_2 := blk_frozen BK185.out 2
      have hfz23_3 := blk_frozen BK185.out 3
      have hfz23_4 := blk_frozen BK185.out 4
      have hfz23_5 := blk_frozen BK185.out 5
      have hfz23_6 := blk_frozen BK185.out 6
      have hfz23_7 := blk_frozen BK185.out 7
      go_wp2_with (first | ((with_reducible refine gate_callee (f := 21) rfl ?_); refine goesL_ (some 23) rfl rfl Tryd.func21 (by kernel_rfl) rfl #[.int .i64 a0_0, .int .u8 78] rfl (by (try simp only [List.map_toArray, List.map_cons, List.map_nil]); first | done | rfl | (simp only [List.length_drop, List.length_take]; rfl)) ?_; (with_reducible refine (hallmarkref04_Has.calls kj2 a0_0 78 false _ A16.out).mono ?_); rintro e w' ⟨rfl, ⟨nd, rfl⟩⟩; refine ⟨_, rfl, ?_⟩))
      go_meet
      case rel => exact ⟨_, (t186), (by first | rfl | (simp; done) | (simp [*]; done) | (simp [*, wrap64]; done) | (simp [*]; unfold wrap64; omega)), H', ⟨by have := HJ2.out; first | omega | exact Nat.le_refl _⟩, ⟨by (with_reducible repeat (first | refine blk_drewN ?_ _ | refine blk_drew ?_ | refine blk_alloc ?_ _)); exact BK185.out⟩, ⟨by repeat (first | (with_reducible first | exact HB.out | apply below_alloc | apply pw_below_drewN | apply below_drew1 | refine below_set ?_ GE185.out) | exact HB.out)⟩⟩
   case rest =>
    clear HC10
    try clear c1
    try clear c2
    try clear p2
    try clear c7
    try clear c8
    try clear c11
    try clear c12
    try clear c12b0
    try clear c12b1
    try clear c12b2
    try clear c14
    try clear c14b0
    try clear c14b1
    try clear c14b2
    try clear c17
    try clear c18
    try clear c18b0
    try clear c18b1
    try clear c18b2
    try clear c20
    try clear c20b0
    try clear c20b1
    try clear c20b2
    try clear c21
    try clear c22
    try clear hcz15_0
    try clear hcz15_1
    try clear hcz15_2
    try clear hcz15_3
    try clear hcz15_4
    try clear hcz15_5
    try clear hcz15_6
    try clear hcz15_7
    try clear hcz21_0
    try clear hcz21_1
    try clear hcz21_2
    try clear hcz21_3
    try clear hcz21_4
    try clear hcz21_5
    try clear hcz21_6
    try clear hcz21_7
    try clear hcz23_0
    try clear hcz23_1
    try clear hcz23_2
    try clear hcz23_3
    try clear hcz23_4
    try clear hcz23_5
    try clear hcz23_6
    try clear hcz23_7
    try clear hcz5_0
    try clear hcz5_1
    try clear hcz5_2
    try clear hcz5_3
    try clear hcz5_4
    try clear hcz5_5
    try clear hcz5_6
    try clear hcz5_7
    try clear hcz8_0
    try clear hcz8_1
    try clear hcz8_2
    try clear hcz8_3
    try clear hcz8_4
    try clear hcz8_5
    try clear hcz8_6
    try clear hcz8_7
    try clear hcz9_0
    try clear hcz9_1
    try clear hcz9_2
    try clear hcz9_3
    try clear hcz9_4
    try clear hcz9_5
    try clear hcz9_6
    try clear hcz9_7
    try clear hfz15_0
    try clear hfz15_1
    try clear hfz15_2
    try clear hfz15_3
    try clear hfz15_4
    try clear hfz15_5
    try clear hfz15_6
    try clear hfz15_7
    try clear hfz21_0
    try clear hfz21_1
    try clear hfz21_2
    try clear hfz21_3
    try clear hfz21_4
    try clear hfz21_5
    try clear hfz21_6
    try clear hfz21_7
    try clear hfz23_0
    try clear hfz23_1
    try clear hfz23_2
    try clear hfz23_3
    try clear hfz23_4
    try clear hfz23_5
    try clear hfz23_6
    try clear hfz23_7
    try clear hfz5_0
    try clear hfz5_1
    try clear hfz5_2
    try clear hfz5_3
    try clear hfz5_4
    try clear hfz5_5
    try clear hfz5_6
    try clear hfz5_7
    try clear hfz8_0
    try clear hfz8_1
    try clear hfz8_2
    try clear hfz8_3
    try clear hfz8_4
    try clear hfz8_5
    try clear hfz8_6
    try clear hfz8_7
    try clear hfz9_0
    try clear hfz9_1
    try clear hfz9_2
    try clear hfz9_3
    try clear hfz9_4
    try clear hfz9_5
    try clear hfz9_6
    try clear hfz9_7
    try clear p2
    obtain ⟨kq, x3_9, rfl, HA, HJ9, BK185, HB⟩ := hcut
    cases kq with
    | zero => exact absurd HA.out (by simp [hallmarkref06_Op.j1])
    | succ kj9 =>
     have H := HA.out
     clear HA
     simp only [hallmarkref06_Op.j1] at H
     replace H := Option.bind_eq_some_iff.mp H
     obtain ⟨t191, A240, H⟩ := H
     replace H : (if t191 = true then (if x3_9.size + 1 ≤ 9223372036854775807 then ((hallmarkref02_Quote.f kj9 a0_5).bind fun t192 => (if (x3_9 ++ (⟨#[32]⟩ : ByteArray)).size + t192.size ≤ 9223372036854775807 then (hallmarkref06_Op.j2 kj9 ((x3_9 ++ (⟨#[32]⟩ : ByteArray)) ++ t192) a0_0 a0_1 a0_2 a0_3 a0_4 a0_5 l0_6 a0_7) else (none))) else (none)) else (hallmarkref06_Op.j2 kj9 x3_9 a0_0 a0_1 a0_2 a0_3 a0_4 a0_5 l0_6 a0_7)) = some r := H
     have A24 := zm A240
     clear A240
     have HC25 := zm H
     clear H
     have hcz26_0 : wc.cell? ⟨gb185, 0, none⟩ = some (.int .i64 a0_0) := (blk_cell BK185.out 0).trans rfl
     have hcz26_1 : wc.cell? ⟨gb185, 1, none⟩ = some (.int .i64 a0_1) := (blk_cell BK185.out 1).trans rfl
     have hcz26_2 : wc.cell? ⟨gb185, 2, none⟩ = some (.int .i64 a0_2) := (blk_cell BK185.out 2).trans rfl
     have hcz26_3 : wc.cell? ⟨gb185, 3, none⟩ = some (.int .i64 a0_3) := (blk_cell BK185.out 3).trans rfl
     have hcz26_4 : wc.cell? ⟨gb185, 4, none⟩ = some (.int .i64 a0_4) := (blk_cell BK185.out 4).trans rfl
     have hcz26_5 : wc.cell? ⟨gb185, 5, none⟩ = some (.string a0_5) := (blk_cell BK185.out 5).trans rfl
     have hcz26_6 : wc.cell? ⟨gb185, 6, none⟩ = some (.slice A0_6 l0_6.length c0_6) := (blk_cell BK185.out 6).trans rfl
     have hcz26_7 : wc.cell? ⟨gb185, 7, none⟩ = some (.bool a0_7) := (blk_cell BK185.out 7).trans rfl
     have hfz26_0 := blk_frozen BK185.out 0
     have hfz26_1 := blk_frozen BK185.out 1
     have hfz26_2 := blk_frozen BK185.out 2
     have hfz26_3 := blk_frozen BK185.out 3
     have hfz26_4 := blk_frozen BK185.out 4
     have hfz26_5 := blk_frozen BK185.out 5
     have hfz26_6 := blk_frozen BK185.out 6
     have hfz26_7 := blk_frozen BK185.out 7
     go_upto_if 32 with (first | ((with_reducible refine gate_callee (f := 21) rfl ?_); refine goesL_ (some 32) rfl rfl Tryd.func21 (by kernel_rfl) rfl #[.int .i64 a0_0, .int .u8 83] rfl (by (try simp only [List.map_toArray, List.map_cons, List.map_nil]); first | done | rfl | (simp only [List.length_drop, List.length_take]; rfl)) ?_; (with_reducible refine (hallmarkref04_Has.calls kj9 a0_0 83 t191 _ A24.out).mono ?_); rintro e w' ⟨rfl, ⟨nd, rfl⟩⟩; refine ⟨_, rfl, ?_⟩))
     (try simp only [Act.put, List.setIfInBounds_toArray, List.set_cons_zero, List.set_cons_succ])
     go_cut [3] (fun v3 wc => ∃ (kq : Nat) (x3_24 : ByteArray), v3 = .string x3_24 ∧ Aside0 (hallmarkref06_Op.j2 kq x3_24 a0_0 a0_1 a0_2 a0_3 a0_4 a0_5 l0_6 a0_7 = some r) ∧ Aside0 (kq ≤ kj9) ∧ Aside0 (wc.heap[gb185]? = some (.cells #[.int .i64 a0_0, .int .i64 a0_1, .int .i64 a0_2, .int .i64 a0_3, .int .i64 a0_4, .string a0_5, (.slice A0_6 l0_6.length c0_6), .bool a0_7] 24 (0, 0))) ∧ Aside0 (Below w.heap.size w wc))
     case first =>
      have H := HC25.out
      clear HC25
      by_cases c27 : t191 = true
      ·subst c27
       have H1 : (if x3_9.size + 1 ≤ 9223372036854775807 then ((hallmarkref02_Quote.f kj9 a0_5).bind fun t192 => (if (x3_9 ++ (⟨#[32]⟩ : ByteArray)).size + t192.size ≤ 9223372036854775807 then (hallmarkref06_Op.j2 kj9 ((x3_9 ++ (⟨#[32]⟩ : ByteArray)) ++ t192) a0_0 a0_1 a0_2 a0_3 a0_4 a0_5 l0_6 a0_7) else (none))) else (none)) = some r := by rw [if_pos rfl] at H; exact H
       clear H
       have H := H1
       clear H1
       by_cases c28 : x3_9.size + 1 ≤ 9223372036854775807
       ·rw [if_pos c28] at H
        have c28b0 := eq_true c28
        have c28b1 : decide (x3_9.size + 1 ≤ 9223372036854775807) = true := decide_eq_true c28
        try have c28b2 : (9223372036854775807 < x3_9.size + 1) = False := eq_false (Nat.not_lt.2 c28)
        replace H := Option.bind_eq_some_iff.mp H
        obtain ⟨t192, A290, H⟩ := H
        replace H : (if (x3_9 ++ (⟨#[32]⟩ : ByteArray)).size + t192.size ≤ 9223372036854775807 then (hallmarkref06_Op.j2 kj9 ((x3_9 ++ (⟨#[32]⟩ : ByteArray)) ++ t192) a0_0 a0_1 a0_2 a0_3 a0_4 a0_5 l0_6 a0_7) else (none)) = some r := H
        have A29 := zm A290
        clear A290
        by_cases c30 : (x3_9 ++ (⟨#[32]⟩ : ByteArray)).size + t192.size ≤ 9223372036854775807
        ·rw [if_pos c30] at H
         have c30b0 := eq_true c30
         have c30b1 : decide ((x3_9 ++ (⟨#[32]⟩ : ByteArray)).size + t192.size ≤ 9223372036854775807) = true := decide_eq_true c30
         have c30n := c30
         simp only [ByteArray.size_append, show (⟨#[32]⟩ : ByteArray).size = 1 from rfl] at c30n
         have c30n0 := eq_true c30n
         have c30n1 := decide_eq_true c30n
         have c30n2 := eq_false (Nat.not_lt.2 c30n)
         clear c30n
         try have c30b2 : (9223372036854775807 < (x3_9 ++ (⟨#[32]⟩ : ByteArray)).size + t192.size) = False := eq_false (Nat.not_lt.2 c30)
         have H' := zm H
         clear H
         have hcz31_0 : wc.cell? ⟨gb185, 0, none⟩ = some (.int .i64 a0_0) := (blk_cell BK185.out 0).trans rfl
         have hcz31_1 : wc.cell? ⟨gb185, 1, none⟩ = some (.int .i64 a0_1) := (blk_cell BK185.out 1).trans rfl
         have hcz31_2 : wc.cell? ⟨gb185, 2, none⟩ = some (.int .i64 a0_2) := (blk_cell BK185.out 2).trans rfl
         have hcz31_3 : wc.cell? ⟨gb185, 3, none⟩ = some (.int .i64 a0_3) := (blk_cell BK185.out 3).trans rfl
         have hcz31_4 : wc.cell? ⟨gb185, 4, none⟩ = some (.int .i64 a0_4) := (blk_cell BK185.out 4).trans rfl
         have hcz31_5 : wc.cell? ⟨gb185, 5, none⟩ = some (.string a0_5) := (blk_cell BK185.out 5).trans rfl
         have hcz31_6 : wc.cell? ⟨gb185, 6, none⟩ = some (.slice A0_6 l0_6.length c0_6) := (blk_cell BK185.out 6).trans rfl
         have hcz31_7 : wc.cell? ⟨gb185, 7, none⟩ = some (.bool a0_7) := (blk_cell BK185.out 7).trans rfl
         have hfz31_0 := blk_frozen BK185.out 0
         have hfz31_1 := blk_frozen BK185.out 1
         have hfz31_2 := blk_frozen BK185.out 2
         have hfz31_3 := blk_frozen BK185.out 3
         have hfz31_4 := blk_frozen BK185.out 4
         have hfz31_5 := blk_frozen BK185.out 5
         have hfz31_6 := blk_frozen BK185.out 6
         have hfz31_7 := blk_frozen BK185.out 7
         go_wp2_with (first | ((with_reducible refine gate_callee (f := 23) rfl ?_); refine goesL_ (some 37) rfl rfl Tryd.func23 (by kernel_rfl) rfl #[.string a0_5] rfl (by (try simp only [List.map_toArray, List.map_cons, List.map_nil]); first | done | rfl | (simp only [List.length_drop, List.length_take]; rfl)) ?_; (with_reducible refine (hallmarkref02_Quote.calls kj9 a0_5 t192 _ A29.out).mono ?_); rintro e w32 ⟨rfl, hb⟩; refine ⟨_, rfl, ?_⟩; have n0_ := zm (blk_below (g := gb185) (o := .cells #[.int .i64 a0_0, .int .i64 a0_1, .int .i64 a0_2, .int .i64 a0_3, .int .i64 a0_4, .string a0_5, .slice A0_6 l0_6.length c0_6, .bool a0_7] 24 (0, 0)) (by (with_reducible repeat (first | refine blk_drewN ?_ _ | refine blk_drew ?_ | refine blk_alloc ?_ _)); exact BK185.out) hb); have n1_ := zm (below_step (by repeat (first | (with_reducible first | exact HB.out | apply below_alloc | apply pw_below_drewN | apply below_drew1 | refine below_set ?_ GE185.out) | exact HB.out)) hb); clear BK185; clear HB; have BK185 := n0_; have HB := n1_; clear n0_ n1_; (try clear hb); (try clear hb2); (try clear hk); (try clear hi)))
         go_meet
         case rel => exact ⟨_, ((x3_9 ++ (⟨#[32]⟩ : ByteArray)) ++ t192), (by first | rfl | (simp; done) | (simp [*]; done) | (simp [*, wrap64]; done) | (simp [*]; unfold wrap64; omega)), H', ⟨by have := HJ2.out; have := HJ9.out; first | omega | exact Nat.le_refl _⟩, ⟨by (with_reducible repeat (first | refine blk_drewN ?_ _ | refine blk_drew ?_ | refine blk_alloc ?_ _)); exact BK185.out⟩, ⟨by repeat (first | (with_reducible first | exact HB.out | apply below_alloc | apply pw_below_drewN | apply below_drew1 | refine below_set ?_ GE185.out) | exact HB.out)⟩⟩
        ·rw [if_neg c30] at H
         exact absurd H (by simp)
       ·rw [if_neg c28] at H
        exact absurd H (by simp)
      ·replace c27 := Bool.eq_false_iff.mpr c27
       subst c27
       have H1 : (hallmarkref06_Op.j2 kj9 x3_9 a0_0 a0_1 a0_2 a0_3 a0_4 a0_5 l0_6 a0_7) = some r := by rw [if_neg (show ¬ (false = true) by decide)] at H; exact H
       clear H
       have H := H1
       clear H1
       have H' := zm H
       clear H
       go_wp2
       go_meet
       case rel => exact ⟨_, (x3_9), (by first | rfl | (simp; done) | (simp [*]; done) | (simp [*, wrap64]; done) | (simp [*]; unfold wrap64; omega)), H', ⟨by have := HJ2.out; have := HJ9.out; first | omega | exact Nat.le_refl _⟩, ⟨by (with_reducible repeat (first | refine blk_drewN ?_ _ | refine blk_drew ?_ | refine blk_alloc ?_ _)); exact BK185.out⟩, ⟨by repeat (first | (with_reducible first | exact HB.out | apply below_alloc | apply pw_below_drewN | apply below_drew1 | refine below_set ?_ GE185.out) | exact HB.out)⟩⟩
     case rest =>
      clear HC25
      try clear c1
      try clear c2
      try clear p2
      try clear c3
      try clear c7
      try clear c8
      try clear c11
      try clear c12
      try clear c12b0
      try clear c12b1
      try clear c12b2
      try clear c14
      try clear c14b0
      try clear c14b1
      try clear c14b2
      try clear c17
      try clear c18
      try clear c18b0
      try clear c18b1
      try clear c18b2
      try clear c20
      try clear c20b0
      try clear c20b1
      try clear c20b2
      try clear c21
      try clear c22
      try clear c23
      try clear c27
      try clear c28
      try clear c28b0
      try clear c28b1
      try clear c28b2
      try clear c30
      try clear c30b0
      try clear c30b1
      try clear c30b2
      try clear hcz15_0
      try clear hcz15_1
      try clear hcz15_2
      try clear hcz15_3
      try clear hcz15_4
      try clear hcz15_5
      try clear hcz15_6
      try clear hcz15_7
      try clear hcz21_0
      try clear hcz21_1
      try clear hcz21_2
      try clear hcz21_3
      try clear hcz21_4
      try clear hcz21_5
      try clear hcz21_6
      try clear hcz21_7
      try clear hcz23_0
      try clear hcz23_1
      try clear hcz23_2
      try clear hcz23_3
      try clear hcz23_4
      try clear hcz23_5
      try clear hcz23_6
      try clear hcz23_7
      try clear hcz26_0
      try clear hcz26_1
      try clear hcz26_2
      try clear hcz26_3
      try clear hcz26_4
      try clear hcz26_5
      try clear hcz26_6
      try clear hcz26_7
      try clear hcz31_0
      try clear hcz31_1
      try clear hcz31_2
      try clear hcz31_3
      try clear hcz31_4
      try clear hcz31_5
      try clear hcz31_6
      try clear hcz31_7
      try clear hcz5_0
      try clear hcz5_1
      try clear hcz5_2
      try clear hcz5_3
      try clear hcz5_4
      try clear hcz5_5
      try clear hcz5_6
      try clear hcz5_7
      try clear hcz8_0
      try clear hcz8_1
      try clear hcz8_2
      try clear hcz8_3
      try clear hcz8_4
      try clear hcz8_5
      try clear hcz8_6
      try clear hcz8_7
      try clear hcz9_0
      try clear hcz9_1
      try clear hcz9_2
      try clear hcz9_3
      try clear hcz9_4
      try clear hcz9_5
      try clear hcz9_6
      try clear hcz9_7
      try clear hfz15_0
      try clear hfz15_1
      try clear hfz15_2
      try clear hfz15_3
      try clear hfz15_4
      try clear hfz15_5
      try clear hfz15_6
      try clear hfz15_7
      try clear hfz21_0
      try clear hfz21_1
      try clear hfz21_2
      try clear hfz21_3
      try clear hfz21_4
      try clear hfz21_5
      try clear hfz21_6
      try clear hfz21_7
      try clear hfz23_0
      try clear hfz23_1
      try clear hfz23_2
      try clear hfz23_3
      try clear hfz23_4
      try clear hfz23_5
      try clear hfz23_6
      try clear hfz23_7
      try clear hfz26_0
      try clear hfz26_1
      try clear hfz26_2
      try clear hfz26_3
      try clear hfz26_4
      try clear hfz26_5
      try clear hfz26_6
      try clear hfz26_7
      try clear hfz31_0
      try clear hfz31_1
      try clear hfz31_2
      try clear hfz31_3
      try clear hfz31_4
      try clear hfz31_5
      try clear hfz31_6
      try clear hfz31_7
      try clear hfz5_0
      try clear hfz5_1
      try clear hfz5_2
      try clear hfz5_3
      try clear hfz5_4
      try clear hfz5_5
      try clear hfz5_6
      try clear hfz5_7
      try clear hfz8_0
      try clear hfz8_1
      try clear hfz8_2
      try clear hfz8_3
      try clear hfz8_4
      try clear hfz8_5
      try clear hfz8_6
      try clear hfz8_7
      try clear hfz9_0
      try clear hfz9_1
      try clear hfz9_2
      try clear hfz9_3
      try clear hfz9_4
      try clear hfz9_5
      try clear hfz9_6
      try clear hfz9_7
      try clear p2
      obtain ⟨kq, x3_24, rfl, HA, HJ24, BK185, HB⟩ := hcut
      cases kq with
      | zero => exact absurd HA.out (by simp [hallmarkref06_Op.j2])
      | succ kj24 =>
       have H := HA.out
       clear HA
       simp only [hallmarkref06_Op.j2] at H
       replace H := Option.bind_eq_some_iff.mp H
       obtain ⟨t193, A330, H⟩ := H
       replace H : (if t193 = true then (if x3_24.size + 2 ≤ 9223372036854775807 then ((hallmarkref06_num.f kj24 a0_1).bind fun t194 => (if (x3_24 ++ (⟨#[32, 118]⟩ : ByteArray)).size + t194.size ≤ 9223372036854775807 then (hallmarkref06_Op.j3 kj24 ((x3_24 ++ (⟨#[32, 118]⟩ : ByteArray)) ++ t194) a0_0 a0_1 a0_2 a0_3 a0_4 a0_5 l0_6 a0_7) else (none))) else (none)) else (hallmarkref06_Op.j3 kj24 x3_24 a0_0 a0_1 a0_2 a0_3 a0_4 a0_5 l0_6 a0_7)) = some r := H
       have A33 := zm A330
       clear A330
       have HC34 := zm H
       clear H
       have hcz35_0 : wc.cell? ⟨gb185, 0, none⟩ = some (.int .i64 a0_0) := (blk_cell BK185.out 0).trans rfl
       have hcz35_1 : wc.cell? ⟨gb185, 1, none⟩ = some (.int .i64 a0_1) := (blk_cell BK185.out 1).trans rfl
       have hcz35_2 : wc.cell? ⟨gb185, 2, none⟩ = some (.int .i64 a0_2) := (blk_cell BK185.out 2).trans rfl
       have hcz35_3 : wc.cell? ⟨gb185, 3, none⟩ = some (.int .i64 a0_3) := (blk_cell BK185.out 3).trans rfl
       have hcz35_4 : wc.cell? ⟨gb185, 4, none⟩ = some (.int .i64 a0_4) := (blk_cell BK185.out 4).trans rfl
       have hcz35_5 : wc.cell? ⟨gb185, 5, none⟩ = some (.string a0_5) := (blk_cell BK185.out 5).trans rfl
       have hcz35_6 : wc.cell? ⟨gb185, 6, none⟩ = some (.slice A0_6 l0_6.length c0_6) := (blk_cell BK185.out 6).trans rfl
       have hcz35_7 : wc.cell? ⟨gb185, 7, none⟩ = some (.bool a0_7) := (blk_cell BK185.out 7).trans rfl
       have hfz35_0 := blk_frozen BK185.out 0
       have hfz35_1 := blk_frozen BK185.out 1
       have hfz35_2 := blk_frozen BK185.out 2
       have hfz35_3 := blk_frozen BK185.out 3
       have hfz35_4 := blk_frozen BK185.out 4
       have hfz35_5 := blk_frozen BK185.out 5
       have hfz35_6 := blk_frozen BK185.out 6
       have hfz35_7 := blk_frozen BK185.out 7
       go_upto_if 41 with (first | ((with_reducible refine gate_callee (f := 21) rfl ?_); refine goesL_ (some 41) rfl rfl Tryd.func21 (by kernel_rfl) rfl #[.int .i64 a0_0, .int .u8 65] rfl (by (try simp only [List.map_toArray, List.map_cons, List.map_nil]); first | done | rfl | (simp only [List.length_drop, List.length_take]; rfl)) ?_; (with_reducible refine (hallmarkref04_Has.calls kj24 a0_0 65 t193 _ A33.out).mono ?_); rintro e w' ⟨rfl, ⟨nd, rfl⟩⟩; refine ⟨_, rfl, ?_⟩))
       (try simp only [Act.put, List.setIfInBounds_toArray, List.set_cons_zero, List.set_cons_succ])
       go_cut [3] (fun v3 wc => ∃ (kq : Nat) (x3_33 : ByteArray), v3 = .string x3_33 ∧ Aside0 (hallmarkref06_Op.j3 kq x3_33 a0_0 a0_1 a0_2 a0_3 a0_4 a0_5 l0_6 a0_7 = some r) ∧ Aside0 (kq ≤ kj24) ∧ Aside0 (wc.heap[gb185]? = some (.cells #[.int .i64 a0_0, .int .i64 a0_1, .int .i64 a0_2, .int .i64 a0_3, .int .i64 a0_4, .string a0_5, (.slice A0_6 l0_6.length c0_6), .bool a0_7] 24 (0, 0))) ∧ Aside0 (Below w.heap.size w wc))
       case first =>
        have H := HC34.out
        clear HC34
        by_cases c36 : t193 = true
        ·subst c36
         have H1 : (if x3_24.size + 2 ≤ 9223372036854775807 then ((hallmarkref06_num.f kj24 a0_1).bind fun t194 => (if (x3_24 ++ (⟨#[32, 118]⟩ : ByteArray)).size + t194.size ≤ 9223372036854775807 then (hallmarkref06_Op.j3 kj24 ((x3_24 ++ (⟨#[32, 118]⟩ : ByteArray)) ++ t194) a0_0 a0_1 a0_2 a0_3 a0_4 a0_5 l0_6 a0_7) else (none))) else (none)) = some r := by rw [if_pos rfl] at H; exact H
         clear H
         have H := H1
         clear H1
         by_cases c37 : x3_24.size + 2 ≤ 9223372036854775807
         ·rw [if_pos c37] at H
          have c37b0 := eq_true c37
          have c37b1 : decide (x3_24.size + 2 ≤ 9223372036854775807) = true := decide_eq_true c37
          try have c37b2 : (9223372036854775807 < x3_24.size + 2) = False := eq_false (Nat.not_lt.2 c37)
          replace H := Option.bind_eq_some_iff.mp H
          obtain ⟨t194, A380, H⟩ := H
          replace H : (if (x3_24 ++ (⟨#[32, 118]⟩ : ByteArray)).size + t194.size ≤ 9223372036854775807 then (hallmarkref06_Op.j3 kj24 ((x3_24 ++ (⟨#[32, 118]⟩ : ByteArray)) ++ t194) a0_0 a0_1 a0_2 a0_3 a0_4 a0_5 l0_6 a0_7) else (none)) = some r := H
          have A38 := zm A380
          clear A380
          by_cases c39 : (x3_24 ++ (⟨#[32, 118]⟩ : ByteArray)).size + t194.size ≤ 9223372036854775807
          ·rw [if_pos c39] at H
           have c39b0 := eq_true c39
           have c39b1 : decide ((x3_24 ++ (⟨#[32, 118]⟩ : ByteArray)).size + t194.size ≤ 9223372036854775807) = true := decide_eq_true c39
           have c39n := c39
           simp only [ByteArray.size_append, show (⟨#[32, 118]⟩ : ByteArray).size = 2 from rfl] at c39n
           have c39n0 := eq_true c39n
           have c39n1 := decide_eq_true c39n
           have c39n2 := eq_false (Nat.not_lt.2 c39n)
           clear c39n
           try have c39b2 : (9223372036854775807 < (x3_24 ++ (⟨#[32, 118]⟩ : ByteArray)).size + t194.size) = False := eq_false (Nat.not_lt.2 c39)
           have H' := zm H
           clear H
           have hcz40_0 : wc.cell? ⟨gb185, 0, none⟩ = some (.int .i64 a0_0) := (blk_cell BK185.out 0).trans rfl
           have hcz40_1 : wc.cell? ⟨gb185, 1, none⟩ = some (.int .i64 a0_1) := (blk_cell BK185.out 1).trans rfl
           have hcz40_2 : wc.cell? ⟨gb185, 2, none⟩ = some (.int .i64 a0_2) := (blk_cell BK185.out 2).trans rfl
           have hcz40_3 : wc.cell? ⟨gb185, 3, none⟩ = some (.int .i64 a0_3) := (blk_cell BK185.out 3).trans rfl
           have hcz40_4 : wc.cell? ⟨gb185, 4, none⟩ = some (.int .i64 a0_4) := (blk_cell BK185.out 4).trans rfl
           have hcz40_5 : wc.cell? ⟨gb185, 5, none⟩ = some (.string a0_5) := (blk_cell BK185.out 5).trans rfl
           have hcz40_6 : wc.cell? ⟨gb185, 6, none⟩ = some (.slice A0_6 l0_6.length c0_6) := (blk_cell BK185.out 6).trans rfl
           have hcz40_7 : wc.cell? ⟨gb185, 7, none⟩ = some (.bool a0_7) := (blk_cell BK185.out 7).trans rfl
           have hfz40_0 := blk_frozen BK185.out 0
           have hfz40_1 := blk_frozen BK185.out 1
           have hfz40_2 := blk_frozen BK185.out 2
           have hfz40_3 := blk_frozen BK185.out 3
           have hfz40_4 := blk_frozen BK185.out 4
           have hfz40_5 := blk_frozen BK185.out 5
           have hfz40_6 := blk_frozen BK185.out 6
           have hfz40_7 := blk_frozen BK185.out 7
           go_wp2_with (first | ((with_reducible refine gate_callee (f := 24) rfl ?_); refine goesL_ (some 46) rfl rfl Tryd.func24 (by kernel_rfl) rfl #[.int .i64 a0_1] rfl (by (try simp only [List.map_toArray, List.map_cons, List.map_nil]); first | done | rfl | (simp only [List.length_drop, List.length_take]; rfl)) ?_; (with_reducible refine (hallmarkref06_num.calls kj24 a0_1 t194 _ A38.out).mono ?_); rintro e w41 ⟨rfl, hb⟩; refine ⟨_, rfl, ?_⟩; have n0_ := zm (blk_below (g := gb185) (o := .cells #[.int .i64 a0_0, .int .i64 a0_1, .int .i64 a0_2, .int .i64 a0_3, .int .i64 a0_4, .string a0_5, .slice A0_6 l0_6.length c0_6, .bool a0_7] 24 (0, 0)) (by (with_reducible repeat (first | refine blk_drewN ?_ _ | refine blk_drew ?_ | refine blk_alloc ?_ _)); exact BK185.out) hb); have n1_ := zm (below_step (by repeat (first | (with_reducible first | exact HB.out | apply below_alloc | apply pw_below_drewN | apply below_drew1 | refine below_set ?_ GE185.out) | exact HB.out)) hb); clear BK185; clear HB; have BK185 := n0_; have HB := n1_; clear n0_ n1_; (try clear hb); (try clear hb2); (try clear hk); (try clear hi)))
           go_meet
           case rel => exact ⟨_, ((x3_24 ++ (⟨#[32, 118]⟩ : ByteArray)) ++ t194), (by first | rfl | (simp; done) | (simp [*]; done) | (simp [*, wrap64]; done) | (simp [*]; unfold wrap64; omega)), H', ⟨by have := HJ2.out; have := HJ9.out; have := HJ24.out; first | omega | exact Nat.le_refl _⟩, ⟨by (with_reducible repeat (first | refine blk_drewN ?_ _ | refine blk_drew ?_ | refine blk_alloc ?_ _)); exact BK185.out⟩, ⟨by repeat (first | (with_reducible first | exact HB.out | apply below_alloc | apply pw_below_drewN | apply below_drew1 | refine below_set ?_ GE185.out) | exact HB.out)⟩⟩
          ·rw [if_neg c39] at H
           exact absurd H (by simp)
         ·rw [if_neg c37] at H
          exact absurd H (by simp)
        ·replace c36 := Bool.eq_false_iff.mpr c36
         subst c36
         have H1 : (hallmarkref06_Op.j3 kj24 x3_24 a0_0 a0_1 a0_2 a0_3 a0_4 a0_5 l0_6 a0_7) = some r := by rw [if_neg (show ¬ (false = true) by decide)] at H; exact H
         clear H
         have H := H1
         clear H1
         have H' := zm H
         clear H
         go_wp2
         go_meet
         case rel => exact ⟨_, (x3_24), (by first | rfl | (simp; done) | (simp [*]; done) | (simp [*, wrap64]; done) | (simp [*]; unfold wrap64; omega)), H', ⟨by have := HJ2.out; have := HJ9.out; have := HJ24.out; first | omega | exact Nat.le_refl _⟩, ⟨by (with_reducible repeat (first | refine blk_drewN ?_ _ | refine blk_drew ?_ | refine blk_alloc ?_ _)); exact BK185.out⟩, ⟨by repeat (first | (with_reducible first | exact HB.out | apply below_alloc | apply pw_below_drewN | apply below_drew1 | refine below_set ?_ GE185.out) | exact HB.out)⟩⟩
       case rest =>
        clear HC34
        try clear c1
        try clear c2
        try clear p2
        try clear c3
        try clear c7
        try clear c8
        try clear c11
        try clear c12
        try clear c12b0
        try clear c12b1
        try clear c12b2
        try clear c14
        try clear c14b0
        try clear c14b1
        try clear c14b2
        try clear c17
        try clear c18
        try clear c18b0
        try clear c18b1
        try clear c18b2
        try clear c20
        try clear c20b0
        try clear c20b1
        try clear c20b2
        try clear c21
        try clear c22
        try clear c23
        try clear c24
        try clear c27
        try clear c28
        try clear c28b0
        try clear c28b1
        try clear c28b2
        try clear c30
        try clear c30b0
        try clear c30b1
        try clear c30b2
        try clear c36
        try clear c37
        try clear c37b0
        try clear c37b1
        try clear c37b2
        try clear c39
        try clear c39b0
        try clear c39b1
        try clear c39b2
        try clear hcz15_0
        try clear hcz15_1
        try clear hcz15_2
        try clear hcz15_3
        try clear hcz15_4
        try clear hcz15_5
        try clear hcz15_6
        try clear hcz15_7
        try clear hcz21_0
        try clear hcz21_1
        try clear hcz21_2
        try clear hcz21_3
        try clear hcz21_4
        try clear hcz21_5
        try clear hcz21_6
        try clear hcz21_7
        try clear hcz23_0
        try clear hcz23_1
        try clear hcz23_2
        try clear hcz23_3
        try clear hcz23_4
        try clear hcz23_5
        try clear hcz23_6
        try clear hcz23_7
        try clear hcz26_0
        try clear hcz26_1
        try clear hcz26_2
        try clear hcz26_3
        try clear hcz26_4
        try clear hcz26_5
        try clear hcz26_6
        try clear hcz26_7
        try clear hcz31_0
        try clear hcz31_1
        try clear hcz31_2
        try clear hcz31_3
        try clear hcz31_4
        try clear hcz31_5
        try clear hcz31_6
        try clear hcz31_7
        try clear hcz35_0
        try clear hcz35_1
        try clear hcz35_2
        try clear hcz35_3
        try clear hcz35_4
        try clear hcz35_5
        try clear hcz35_6
        try clear hcz35_7
        try clear hcz40_0
        try clear hcz40_1
        try clear hcz40_2
        try clear hcz40_3
        try clear hcz40_4
        try clear hcz40_5
        try clear hcz40_6
        try clear hcz40_7
        try clear hcz5_0
        try clear hcz5_1
        try clear hcz5_2
        try clear hcz5_3
        try clear hcz5_4
        try clear hcz5_5
        try clear hcz5_6
        try clear hcz5_7
        try clear hcz8_0
        try clear hcz8_1
        try clear hcz8_2
        try clear hcz8_3
        try clear hcz8_4
        try clear hcz8_5
        try clear hcz8_6
        try clear hcz8_7
        try clear hcz9_0
        try clear hcz9_1
        try clear hcz9_2
        try clear hcz9_3
        try clear hcz9_4
        try clear hcz9_5
        try clear hcz9_6
        try clear hcz9_7
        try clear hfz15_0
        try clear hfz15_1
        try clear hfz15_2
        try clear hfz15_3
        try clear hfz15_4
        try clear hfz15_5
        try clear hfz15_6
        try clear hfz15_7
        try clear hfz21_0
        try clear hfz21_1
        try clear hfz21_2
        try clear hfz21_3
        try clear hfz21_4
        try clear hfz21_5
        try clear hfz21_6
        try clear hfz21_7
        try clear hfz23_0
        try clear hfz23_1
        try clear hfz23_2
        try clear hfz23_3
        try clear hfz23_4
        try clear hfz23_5
        try clear hfz23_6
        try clear hfz23_7
        try clear hfz26_0
        try clear hfz26_1
        try clear hfz26_2
        try clear hfz26_3
        try clear hfz26_4
        try clear hfz26_5
        try clear hfz26_6
        try clear hfz26_7
        try clear hfz31_0
        try clear hfz31_1
        try clear hfz31_2
        try clear hfz31_3
        try clear hfz31_4
        try clear hfz31_5
        try clear hfz31_6
        try clear hfz31_7
        try clear hfz35_0
        try clear hfz35_1
        try clear hfz35_2
        try clear hfz35_3
        try clear hfz35_4
        try clear hfz35_5
        try clear hfz35_6
        try clear hfz35_7
        try clear hfz40_0
        try clear hfz40_1
        try clear hfz40_2
        try clear hfz40_3
        try clear hfz40_4
        try clear hfz40_5
        try clear hfz40_6
        try clear hfz40_7
        try clear hfz5_0
        try clear hfz5_1
        try clear hfz5_2
        try clear hfz5_3
        try clear hfz5_4
        try clear hfz5_5
        try clear hfz5_6
        try clear hfz5_7
        try clear hfz8_0
        try clear hfz8_1
        try clear hfz8_2
        try clear hfz8_3
        try clear hfz8_4
        try clear hfz8_5
        try clear hfz8_6
        try clear hfz8_7
        try clear hfz9_0
        try clear hfz9_1
        try clear hfz9_2
        try clear hfz9_3
        try clear hfz9_4
        try clear hfz9_5
        try clear hfz9_6
        try clear hfz9_7
        try clear p2
        obtain ⟨kq, x3_33, rfl, HA, HJ33, BK185, HB⟩ := hcut
        cases kq with
        | zero => exact absurd HA.out (by simp [hallmarkref06_Op.j3])
        | succ kj33 =>
         have H := HA.out
         clear HA
         simp only [hallmarkref06_Op.j3] at H
         replace H := Option.bind_eq_some_iff.mp H
         obtain ⟨t195, A420, H⟩ := H
         replace H : (if t195 = true then (if x3_33.size + 2 ≤ 9223372036854775807 then ((hallmarkref06_num.f kj33 a0_2).bind fun t196 => (if (x3_33 ++ (⟨#[32, 118]⟩ : ByteArray)).size + t196.size ≤ 9223372036854775807 then (hallmarkref06_Op.j4 kj33 ((x3_33 ++ (⟨#[32, 118]⟩ : ByteArray)) ++ t196) a0_0 a0_1 a0_2 a0_3 a0_4 a0_5 l0_6 a0_7) else (none))) else (none)) else (hallmarkref06_Op.j4 kj33 x3_33 a0_0 a0_1 a0_2 a0_3 a0_4 a0_5 l0_6 a0_7)) = some r := H
         have A42 := zm A420
         clear A420
         have HC43 := zm H
         clear H
         have hcz44_0 : wc.cell? ⟨gb185, 0, none⟩ = some (.int .i64 a0_0) := (blk_cell BK185.out 0).trans rfl
         have hcz44_1 : wc.cell? ⟨gb185, 1, none⟩ = some (.int .i64 a0_1) := (blk_cell BK185.out 1).trans rfl
         have hcz44_2 : wc.cell? ⟨gb185, 2, none⟩ = some (.int .i64 a0_2) := (blk_cell BK185.out 2).trans rfl
         have hcz44_3 : wc.cell? ⟨gb185, 3, none⟩ = some (.int .i64 a0_3) := (blk_cell BK185.out 3).trans rfl
         have hcz44_4 : wc.cell? ⟨gb185, 4, none⟩ = some (.int .i64 a0_4) := (blk_cell BK185.out 4).trans rfl
         have hcz44_5 : wc.cell? ⟨gb185, 5, none⟩ = some (.string a0_5) := (blk_cell BK185.out 5).trans rfl
         have hcz44_6 : wc.cell? ⟨gb185, 6, none⟩ = some (.slice A0_6 l0_6.length c0_6) := (blk_cell BK185.out 6).trans rfl
         have hcz44_7 : wc.cell? ⟨gb185, 7, none⟩ = some (.bool a0_7) := (blk_cell BK185.out 7).trans rfl
         have hfz44_0 := blk_frozen BK185.out 0
         have hfz44_1 := blk_frozen BK185.out 1
         have hfz44_2 := blk_frozen BK185.out 2
         have hfz44_3 := blk_frozen BK185.out 3
         have hfz44_4 := blk_frozen BK185.out 4
         have hfz44_5 := blk_frozen BK185.out 5
         have hfz44_6 := blk_frozen BK185.out 6
         have hfz44_7 := blk_frozen BK185.out 7
         go_upto_if 50 with (first | ((with_reducible refine gate_callee (f := 21) rfl ?_); refine goesL_ (some 50) rfl rfl Tryd.func21 (by kernel_rfl) rfl #[.int .i64 a0_0, .int .u8 66] rfl (by (try simp only [List.map_toArray, List.map_cons, List.map_nil]); first | done | rfl | (simp only [List.length_drop, List.length_take]; rfl)) ?_; (with_reducible refine (hallmarkref04_Has.calls kj33 a0_0 66 t195 _ A42.out).mono ?_); rintro e w' ⟨rfl, ⟨nd, rfl⟩⟩; refine ⟨_, rfl, ?_⟩))
         (try simp only [Act.put, List.setIfInBounds_toArray, List.set_cons_zero, List.set_cons_succ])
         go_cut [3] (fun v3 wc => ∃ (kq : Nat) (x3_42 : ByteArray), v3 = .string x3_42 ∧ Aside0 (hallmarkref06_Op.j4 kq x3_42 a0_0 a0_1 a0_2 a0_3 a0_4 a0_5 l0_6 a0_7 = some r) ∧ Aside0 (kq ≤ kj33) ∧ Aside0 (wc.heap[gb185]? = some (.cells #[.int .i64 a0_0, .int .i64 a0_1, .int .i64 a0_2, .int .i64 a0_3, .int .i64 a0_4, .string a0_5, (.slice A0_6 l0_6.length c0_6), .bool a0_7] 24 (0, 0))) ∧ Aside0 (Below w.heap.size w wc))
         case first =>
          have H := HC43.out
          clear HC43
          by_cases c45 : t195 = true
          ·subst c45
           have H1 : (if x3_33.size + 2 ≤ 9223372036854775807 then ((hallmarkref06_num.f kj33 a0_2).bind fun t196 => (if (x3_33 ++ (⟨#[32, 118]⟩ : ByteArray)).size + t196.size ≤ 9223372036854775807 then (hallmarkref06_Op.j4 kj33 ((x3_33 ++ (⟨#[32, 118]⟩ : ByteArray)) ++ t196) a0_0 a0_1 a0_2 a0_3 a0_4 a0_5 l0_6 a0_7) else (none))) else (none)) = some r := by rw [if_pos rfl] at H; exact H
           clear H
           have H := H1
           clear H1
           by_cases c46 : x3_33.size + 2 ≤ 9223372036854775807
           ·rw [if_pos c46] at H
            have c46b0 := eq_true c46
            have c46b1 : decide (x3_33.size + 2 ≤ 9223372036854775807) = true := decide_eq_true c46
            try have c46b2 : (9223372036854775807 < x3_33.size + 2) = False := eq_false (Nat.not_lt.2 c46)
            replace H := Option.bind_eq_some_iff.mp H
            obtain ⟨t196, A470, H⟩ := H
            replace H : (if (x3_33 ++ (⟨#[32, 118]⟩ : ByteArray)).size + t196.size ≤ 9223372036854775807 then (hallmarkref06_Op.j4 kj33 ((x3_33 ++ (⟨#[32, 118]⟩ : ByteArray)) ++ t196) a0_0 a0_1 a0_2 a0_3 a0_4 a0_5 l0_6 a0_7) else (none)) = some r := H
            have A47 := zm A470
            clear A470
            by_cases c48 : (x3_33 ++ (⟨#[32, 118]⟩ : ByteArray)).size + t196.size ≤ 9223372036854775807
            ·rw [if_pos c48] at H
             have c48b0 := eq_true c48
             have c48b1 : decide ((x3_33 ++ (⟨#[32, 118]⟩ : ByteArray)).size + t196.size ≤ 9223372036854775807) = true := decide_eq_true c48
             have c48n := c48
             simp only [ByteArray.size_append, show (⟨#[32, 118]⟩ : ByteArray).size = 2 from rfl] at c48n
             have c48n0 := eq_true c48n
             have c48n1 := decide_eq_true c48n
             have c48n2 := eq_false (Nat.not_lt.2 c48n)
             clear c48n
             try have c48b2 : (9223372036854775807 < (x3_33 ++ (⟨#[32, 118]⟩ : ByteArray)).size + t196.size) = False := eq_false (Nat.not_lt.2 c48)
             have H' := zm H
             clear H
             have hcz49_0 : wc.cell? ⟨gb185, 0, none⟩ = some (.int .i64 a0_0) := (blk_cell BK185.out 0).trans rfl
             have hcz49_1 : wc.cell? ⟨gb185, 1, none⟩ = some (.int .i64 a0_1) := (blk_cell BK185.out 1).trans rfl
             have hcz49_2 : wc.cell? ⟨gb185, 2, none⟩ = some (.int .i64 a0_2) := (blk_cell BK185.out 2).trans rfl
             have hcz49_3 : wc.cell? ⟨gb185, 3, none⟩ = some (.int .i64 a0_3) := (blk_cell BK185.out 3).trans rfl
             have hcz49_4 : wc.cell? ⟨gb185, 4, none⟩ = some (.int .i64 a0_4) := (blk_cell BK185.out 4).trans rfl
             have hcz49_5 : wc.cell? ⟨gb185, 5, none⟩ = some (.string a0_5) := (blk_cell BK185.out 5).trans rfl
             have hcz49_6 : wc.cell? ⟨gb185, 6, none⟩ = some (.slice A0_6 l0_6.length c0_6) := (blk_cell BK185.out 6).trans rfl
             have hcz49_7 : wc.cell? ⟨gb185, 7, none⟩ = some (.bool a0_7) := (blk_cell BK185.out 7).trans rfl
             have hfz49_0 := blk_frozen BK185.out 0
             have hfz49_1 := blk_frozen BK185.out 1
             have hfz49_2 := blk_frozen BK185.out 2
             have hfz49_3 := blk_frozen BK185.out 3
             have hfz49_4 := blk_frozen BK185.out 4
             have hfz49_5 := blk_frozen BK185.out 5
             have hfz49_6 := blk_frozen BK185.out 6
             have hfz49_7 := blk_frozen BK185.out 7
             go_wp2_with (first | ((with_reducible refine gate_callee (f := 24) rfl ?_); refine goesL_ (some 55) rfl rfl Tryd.func24 (by kernel_rfl) rfl #[.int .i64 a0_2] rfl (by (try simp only [List.map_toArray, List.map_cons, List.map_nil]); first | done | rfl | (simp only [List.length_drop, List.length_take]; rfl)) ?_; (with_reducible refine (hallmarkref06_num.calls kj33 a0_2 t196 _ A47.out).mono ?_); rintro e w50 ⟨rfl, hb⟩; refine ⟨_, rfl, ?_⟩; have n0_ := zm (blk_below (g := gb185) (o := .cells #[.int .i64 a0_0, .int .i64 a0_1, .int .i64 a0_2, .int .i64 a0_3, .int .i64 a0_4, .string a0_5, .slice A0_6 l0_6.length c0_6, .bool a0_7] 24 (0, 0)) (by (with_reducible repeat (first | refine blk_drewN ?_ _ | refine blk_drew ?_ | refine blk_alloc ?_ _)); exact BK185.out) hb); have n1_ := zm (below_step (by repeat (first | (with_reducible first | exact HB.out | apply below_alloc | apply pw_below_drewN | apply below_drew1 | refine below_set ?_ GE185.out) | exact HB.out)) hb); clear BK185; clear HB; have BK185 := n0_; have HB := n1_; clear n0_ n1_; (try clear hb); (try clear hb2); (try clear hk); (try clear hi)))
             go_meet
             case rel => exact ⟨_, ((x3_33 ++ (⟨#[32, 118]⟩ : ByteArray)) ++ t196), (by first | rfl | (simp; done) | (simp [*]; done) | (simp [*, wrap64]; done) | (simp [*]; unfold wrap64; omega)), H', ⟨by have := HJ2.out; have := HJ9.out; have := HJ24.out; have := HJ33.out; first | omega | exact Nat.le_refl _⟩, ⟨by (with_reducible repeat (first | refine blk_drewN ?_ _ | refine blk_drew ?_ | refine blk_alloc ?_ _)); exact BK185.out⟩, ⟨by repeat (first | (with_reducible first | exact HB.out | apply below_alloc | apply pw_below_drewN | apply below_drew1 | refine below_set ?_ GE185.out) | exact HB.out)⟩⟩
            ·rw [if_neg c48] at H
             exact absurd H (by simp)
           ·rw [if_neg c46] at H
            exact absurd H (by simp)
          ·replace c45 := Bool.eq_false_iff.mpr c45
           subst c45
           have H1 : (hallmarkref06_Op.j4 kj33 x3_33 a0_0 a0_1 a0_2 a0_3 a0_4 a0_5 l0_6 a0_7) = some r := by rw [if_neg (show ¬ (false = true) by decide)] at H; exact H
           clear H
           have H := H1
           clear H1
           have H' := zm H
           clear H
           go_wp2
           go_meet
           case rel => exact ⟨_, (x3_33), (by first | rfl | (simp; done) | (simp [*]; done) | (simp [*, wrap64]; done) | (simp [*]; unfold wrap64; omega)), H', ⟨by have := HJ2.out; have := HJ9.out; have := HJ24.out; have := HJ33.out; first | omega | exact Nat.le_refl _⟩, ⟨by (with_reducible repeat (first | refine blk_drewN ?_ _ | refine blk_drew ?_ | refine blk_alloc ?_ _)); exact BK185.out⟩, ⟨by repeat (first | (with_reducible first | exact HB.out | apply below_alloc | apply pw_below_drewN | apply below_drew1 | refine below_set ?_ GE185.out) | exact HB.out)⟩⟩
         case rest =>
          clear HC43
          try clear c1
          try clear c2
          try clear p2
          try clear c3
          try clear c4
          try clear c7
          try clear c8
          try clear c11
          try clear c12
          try clear c12b0
          try clear c12b1
          try clear c12b2
          try clear c14
          try clear c14b0
          try clear c14b1
          try clear c14b2
          try clear c17
          try clear c18
          try clear c18b0
          try clear c18b1
          try clear c18b2
          try clear c20
          try clear c20b0
          try clear c20b1
          try clear c20b2
          try clear c21
          try clear c22
          try clear c23
          try clear c24
          try clear c27
          try clear c28
          try clear c28b0
          try clear c28b1
          try clear c28b2
          try clear c30
          try clear c30b0
          try clear c30b1
          try clear c30b2
          try clear c36
          try clear c37
          try clear c37b0
          try clear c37b1
          try clear c37b2
          try clear c39
          try clear c39b0
          try clear c39b1
          try clear c39b2
          try clear c45
          try clear c46
          try clear c46b0
          try clear c46b1
          try clear c46b2
          try clear c48
          try clear c48b0
          try clear c48b1
          try clear c48b2
          try clear hcz15_0
          try clear hcz15_1
          try clear hcz15_2
          try clear hcz15_3
          try clear hcz15_4
          try clear hcz15_5
          try clear hcz15_6
          try clear hcz15_7
          try clear hcz21_0
          try clear hcz21_1
          try clear hcz21_2
          try clear hcz21_3
          try clear hcz21_4
          try clear hcz21_5
          try clear hcz21_6
          try clear hcz21_7
          try clear hcz23_0
          try clear hcz23_1
          try clear hcz23_2
          try clear hcz23_3
          try clear hcz23_4
          try clear hcz23_5
          try clear hcz23_6
          try clear hcz23_7
          try clear hcz26_0
          try clear hcz26_1
          try clear hcz26_2
          try clear hcz26_3
          try clear hcz26_4
          try clear hcz26_5
          try clear hcz26_6
          try clear hcz26_7
          try clear hcz31_0
          try clear hcz31_1
          try clear hcz31_2
          try clear hcz31_3
          try clear hcz31_4
          try clear hcz31_5
          try clear hcz31_6
          try clear hcz31_7
          try clear hcz35_0
          try clear hcz35_1
          try clear hcz35_2
          try clear hcz35_3
          try clear hcz35_4
          try clear hcz35_5
          try clear hcz35_6
          try clear hcz35_7
          try clear hcz40_0
          try clear hcz40_1
          try clear hcz40_2
          try clear hcz40_3
          try clear hcz40_4
          try clear hcz40_5
          try clear hcz40_6
          try clear hcz40_7
          try clear hcz44_0
          try clear hcz44_1
          try clear hcz44_2
          try clear hcz44_3
          try clear hcz44_4
          try clear hcz44_5
          try clear hcz44_6
          try clear hcz44_7
          try clear hcz49_0
          try clear hcz49_1
          try clear hcz49_2
          try clear hcz49_3
          try clear hcz49_4
          try clear hcz49_5
          try clear hcz49_6
          try clear hcz49_7
          try clear hcz5_0
          try clear hcz5_1
          try clear hcz5_2
          try clear hcz5_3
          try clear hcz5_4
          try clear hcz5_5
          try clear hcz5_6
          try clear hcz5_7
          try clear hcz8_0
          try clear hcz8_1
          try clear hcz8_2
          try clear hcz8_3
          try clear hcz8_4
          try clear hcz8_5
          try clear hcz8_6
          try clear hcz8_7
          try clear hcz9_0
          try clear hcz9_1
          try clear hcz9_2
          try clear hcz9_3
          try clear hcz9_4
          try clear hcz9_5
          try clear hcz9_6
          try clear hcz9_7
          try clear hfz15_0
          try clear hfz15_1
          try clear hfz15_2
          try clear hfz15_3
          try clear hfz15_4
          try clear hfz15_5
          try clear hfz15_6
          try clear hfz15_7
          try clear hfz21_0
          try clear hfz21_1
          try clear hfz21_2
          try clear hfz21_3
          try clear hfz21_4
          try clear hfz21_5
          try clear hfz21_6
          try clear hfz21_7
          try clear hfz23_0
          try clear hfz23_1
          try clear hfz23_2
          try clear hfz23_3
          try clear hfz23_4
          try clear hfz23_5
          try clear hfz23_6
          try clear hfz23_7
          try clear hfz26_0
          try clear hfz26_1
          try clear hfz26_2
          try clear hfz26_3
          try clear hfz26_4
          try clear hfz26_5
          try clear hfz26_6
          try clear hfz26_7
          try clear hfz31_0
          try clear hfz31_1
          try clear hfz31_2
          try clear hfz31_3
          try clear hfz31_4
          try clear hfz31_5
          try clear hfz31_6
          try clear hfz31_7
          try clear hfz35_0
          try clear hfz35_1
          try clear hfz35_2
          try clear hfz35_3
          try clear hfz35_4
          try clear hfz35_5
          try clear hfz35_6
          try clear hfz35_7
          try clear hfz40_0
          try clear hfz40_1
          try clear hfz40_2
          try clear hfz40_3
          try clear hfz40_4
          try clear hfz40_5
          try clear hfz40_6
          try clear hfz40_7
          try clear hfz44_0
          try clear hfz44_1
          try clear hfz44_2
          try clear hfz44_3
          try clear hfz44_4
          try clear hfz44_5
          try clear hfz44_6
          try clear hfz44_7
          try clear hfz49_0
          try clear hfz49_1
          try clear hfz49_2
          try clear hfz49_3
          try clear hfz49_4
          try clear hfz49_5
          try clear hfz49_6
          try clear hfz49_7
          try clear hfz5_0
          try clear hfz5_1
          try clear hfz5_2
          try clear hfz5_3
          try clear hfz5_4
          try clear hfz5_5
          try clear hfz5_6
          try clear hfz5_7
          try clear hfz8_0
          try clear hfz8_1
          try clear hfz8_2
          try clear hfz8_3
          try clear hfz8_4
          try clear hfz8_5
          try clear hfz8_6
          try clear hfz8_7
          try clear hfz9_0
          try clear hfz9_1
          try clear hfz9_2
          try clear hfz9_3
          try clear hfz9_4
          try clear hfz9_5
          try clear hfz9_6
          try clear hfz9_7
          try clear p2
          obtain ⟨kq, x3_42, rfl, HA, HJ42, BK185, HB⟩ := hcut
          cases kq with
          | zero => exact absurd HA.out (by simp [hallmarkref06_Op.j4])
          | succ kj42 =>
           have H := HA.out
           clear HA
           simp only [hallmarkref06_Op.j4] at H
           replace H := Option.bind_eq_some_iff.mp H
           obtain ⟨t197, A510, H⟩ := H
           replace H : (if t197 = true then (if x3_42.size + 2 ≤ 9223372036854775807 then ((hallmarkref06_num.f kj42 a0_3).bind fun t198 => (if (x3_42 ++ (⟨#[32, 118]⟩ : ByteArray)).size + t198.size ≤ 9223372036854775807 then (hallmarkref06_Op.j5 kj42 ((x3_42 ++ (⟨#[32, 118]⟩ : ByteArray)) ++ t198) a0_0 a0_1 a0_2 a0_3 a0_4 a0_5 l0_6 a0_7) else (none))) else (none)) else (hallmarkref06_Op.j5 kj42 x3_42 a0_0 a0_1 a0_2 a0_3 a0_4 a0_5 l0_6 a0_7)) = some r := H
           have A51 := zm A510
           clear A510
           have HC52 := zm H
           clear H
           have hcz53_0 : wc.cell? ⟨gb185, 0, none⟩ = some (.int .i64 a0_0) := (blk_cell BK185.out 0).trans rfl
           have hcz53_1 : wc.cell? ⟨gb185, 1, none⟩ = some (.int .i64 a0_1) := (blk_cell BK185.out 1).trans rfl
           have hcz53_2 : wc.cell? ⟨gb185, 2, none⟩ = some (.int .i64 a0_2) := (blk_cell BK185.out 2).trans rfl
           have hcz53_3 : wc.cell? ⟨gb185, 3, none⟩ = some (.int .i64 a0_3) := (blk_cell BK185.out 3).trans rfl
           have hcz53_4 : wc.cell? ⟨gb185, 4, none⟩ = some (.int .i64 a0_4) := (blk_cell BK185.out 4).trans rfl
           have hcz53_5 : wc.cell? ⟨gb185, 5, none⟩ = some (.string a0_5) := (blk_cell BK185.out 5).trans rfl
           have hcz53_6 : wc.cell? ⟨gb185, 6, none⟩ = some (.slice A0_6 l0_6.length c0_6) := (blk_cell BK185.out 6).trans rfl
           have hcz53_7 : wc.cell? ⟨gb185, 7, none⟩ = some (.bool a0_7) := (blk_cell BK185.out 7).trans rfl
           have hfz53_0 := blk_frozen BK185.out 0
           have hfz53_1 := blk_frozen BK185.out 1
           have hfz53_2 := blk_frozen BK185.out 2
           have hfz53_3 := blk_frozen BK185.out 3
           have hfz53_4 := blk_frozen BK185.out 4
           have hfz53_5 := blk_frozen BK185.out 5
           have hfz53_6 := blk_frozen BK185.out 6
           have hfz53_7 := blk_frozen BK185.out 7
           go_upto_if 59 with (first | ((with_reducible refine gate_callee (f := 21) rfl ?_); refine goesL_ (some 59) rfl rfl Tryd.func21 (by kernel_rfl) rfl #[.int .i64 a0_0, .int .u8 67] rfl (by (try simp only [List.map_toArray, List.map_cons, List.map_nil]); first | done | rfl | (simp only [List.length_drop, List.length_take]; rfl)) ?_; (with_reducible refine (hallmarkref04_Has.calls kj42 a0_0 67 t197 _ A51.out).mono ?_); rintro e w' ⟨rfl, ⟨nd, rfl⟩⟩; refine ⟨_, rfl, ?_⟩))
           (try simp only [Act.put, List.setIfInBounds_toArray, List.set_cons_zero, List.set_cons_succ])
           go_cut [3] (fun v3 wc => ∃ (kq : Nat) (x3_51 : ByteArray), v3 = .string x3_51 ∧ Aside0 (hallmarkref06_Op.j5 kq x3_51 a0_0 a0_1 a0_2 a0_3 a0_4 a0_5 l0_6 a0_7 = some r) ∧ Aside0 (kq ≤ kj42) ∧ Aside0 (wc.heap[gb185]? = some (.cells #[.int .i64 a0_0, .int .i64 a0_1, .int .i64 a0_2, .int .i64 a0_3, .int .i64 a0_4, .string a0_5, (.slice A0_6 l0_6.length c0_6), .bool a0_7] 24 (0, 0))) ∧ Aside0 (Below w.heap.size w wc))
           case first =>
            have H := HC52.out
            clear HC52
            by_cases c54 : t197 = true
            ·subst c54
             have H1 : (if x3_42.size + 2 ≤ 9223372036854775807 then ((hallmarkref06_num.f kj42 a0_3).bind fun t198 => (if (x3_42 ++ (⟨#[32, 118]⟩ : ByteArray)).size + t198.size ≤ 9223372036854775807 then (hallmarkref06_Op.j5 kj42 ((x3_42 ++ (⟨#[32, 118]⟩ : ByteArray)) ++ t198) a0_0 a0_1 a0_2 a0_3 a0_4 a0_5 l0_6 a0_7) else (none))) else (none)) = some r := by rw [if_pos rfl] at H; exact H
             clear H
             have H := H1
             clear H1
             by_cases c55 : x3_42.size + 2 ≤ 9223372036854775807
             ·rw [if_pos c55] at H
              have c55b0 := eq_true c55
              have c55b1 : decide (x3_42.size + 2 ≤ 9223372036854775807) = true := decide_eq_true c55
              try have c55b2 : (9223372036854775807 < x3_42.size + 2) = False := eq_false (Nat.not_lt.2 c55)
              replace H := Option.bind_eq_some_iff.mp H
              obtain ⟨t198, A560, H⟩ := H
              replace H : (if (x3_42 ++ (⟨#[32, 118]⟩ : ByteArray)).size + t198.size ≤ 9223372036854775807 then (hallmarkref06_Op.j5 kj42 ((x3_42 ++ (⟨#[32, 118]⟩ : ByteArray)) ++ t198) a0_0 a0_1 a0_2 a0_3 a0_4 a0_5 l0_6 a0_7) else (none)) = some r := H
              have A56 := zm A560
              clear A560
              by_cases c57 : (x3_42 ++ (⟨#[32, 118]⟩ : ByteArray)).size + t198.size ≤ 9223372036854775807
              ·rw [if_pos c57] at H
               have c57b0 := eq_true c57
               have c57b1 : decide ((x3_42 ++ (⟨#[32, 118]⟩ : ByteArray)).size + t198.size ≤ 9223372036854775807) = true := decide_eq_true c57
               have c57n := c57
               simp only [ByteArray.size_append, show (⟨#[32, 118]⟩ : ByteArray).size = 2 from rfl] at c57n
               have c57n0 := eq_true c57n
               have c57n1 := decide_eq_true c57n
               have c57n2 := eq_false (Nat.not_lt.2 c57n)
               clear c57n
               try have c57b2 : (9223372036854775807 < (x3_42 ++ (⟨#[32, 118]⟩ : ByteArray)).size + t198.size) = False := eq_false (Nat.not_lt.2 c57)
               have H' := zm H
               clear H
               have hcz58_0 : wc.cell? ⟨gb185, 0, none⟩ = some (.int .i64 a0_0) := (blk_cell BK185.out 0).trans rfl
               have hcz58_1 : wc.cell? ⟨gb185, 1, none⟩ = some (.int .i64 a0_1) := (blk_cell BK185.out 1).trans rfl
               have hcz58_2 : wc.cell? ⟨gb185, 2, none⟩ = some (.int .i64 a0_2) := (blk_cell BK185.out 2).trans rfl
               have hcz58_3 : wc.cell? ⟨gb185, 3, none⟩ = some (.int .i64 a0_3) := (blk_cell BK185.out 3).trans rfl
               have hcz58_4 : wc.cell? ⟨gb185, 4, none⟩ = some (.int .i64 a0_4) := (blk_cell BK185.out 4).trans rfl
               have hcz58_5 : wc.cell? ⟨gb185, 5, none⟩ = some (.string a0_5) := (blk_cell BK185.out 5).trans rfl
               have hcz58_6 : wc.cell? ⟨gb185, 6, none⟩ = some (.slice A0_6 l0_6.length c0_6) := (blk_cell BK185.out 6).trans rfl
               have hcz58_7 : wc.cell? ⟨gb185, 7, none⟩ = some (.bool a0_7) := (blk_cell BK185.out 7).trans rfl
               have hfz58_0 := blk_frozen BK185.out 0
               have hfz58_1 := blk_frozen BK185.out 1
               have hfz58_2 := blk_frozen BK185.out 2
               have hfz58_3 := blk_frozen BK185.out 3
               have hfz58_4 := blk_frozen BK185.out 4
               have hfz58_5 := blk_frozen BK185.out 5
               have hfz58_6 := blk_frozen BK185.out 6
               have hfz58_7 := blk_frozen BK185.out 7
               go_wp2_with (first | ((with_reducible refine gate_callee (f := 24) rfl ?_); refine goesL_ (some 64) rfl rfl Tryd.func24 (by kernel_rfl) rfl #[.int .i64 a0_3] rfl (by (try simp only [List.map_toArray, List.map_cons, List.map_nil]); first | done | rfl | (simp only [List.length_drop, List.length_take]; rfl)) ?_; (with_reducible refine (hallmarkref06_num.calls kj42 a0_3 t198 _ A56.out).mono ?_); rintro e w59 ⟨rfl, hb⟩; refine ⟨_, rfl, ?_⟩; have n0_ := zm (blk_below (g := gb185) (o := .cells #[.int .i64 a0_0, .int .i64 a0_1, .int .i64 a0_2, .int .i64 a0_3, .int .i64 a0_4, .string a0_5, .slice A0_6 l0_6.length c0_6, .bool a0_7] 24 (0, 0)) (by (with_reducible repeat (first | refine blk_drewN ?_ _ | refine blk_drew ?_ | refine blk_alloc ?_ _)); exact BK185.out) hb); have n1_ := zm (below_step (by repeat (first | (with_reducible first | exact HB.out | apply below_alloc | apply pw_below_drewN | apply below_drew1 | refine below_set ?_ GE185.out) | exact HB.out)) hb); clear BK185; clear HB; have BK185 := n0_; have HB := n1_; clear n0_ n1_; (try clear hb); (try clear hb2); (try clear hk); (try clear hi)))
               go_meet
               case rel => exact ⟨_, ((x3_42 ++ (⟨#[32, 118]⟩ : ByteArray)) ++ t198), (by first | rfl | (simp; done) | (simp [*]; done) | (simp [*, wrap64]; done) | (simp [*]; unfold wrap64; omega)), H', ⟨by have := HJ2.out; have := HJ9.out; have := HJ24.out; have := HJ33.out; have := HJ42.out; first | omega | exact Nat.le_refl _⟩, ⟨by (with_reducible repeat (first | refine blk_drewN ?_ _ | refine blk_drew ?_ | refine blk_alloc ?_ _)); exact BK185.out⟩, ⟨by repeat (first | (with_reducible first | exact HB.out | apply below_alloc | apply pw_below_drewN | apply below_drew1 | refine below_set ?_ GE185.out) | exact HB.out)⟩⟩
              ·rw [if_neg c57] at H
               exact absurd H (by simp)
             ·rw [if_neg c55] at H
              exact absurd H (by simp)
            ·replace c54 := Bool.eq_false_iff.mpr c54
             subst c54
             have H1 : (hallmarkref06_Op.j5 kj42 x3_42 a0_0 a0_1 a0_2 a0_3 a0_4 a0_5 l0_6 a0_7) = some r := by rw [if_neg (show ¬ (false = true) by decide)] at H; exact H
             clear H
             have H := H1
             clear H1
             have H' := zm H
             clear H
             go_wp2
             go_meet
             case rel => exact ⟨_, (x3_42), (by first | rfl | (simp; done) | (simp [*]; done) | (simp [*, wrap64]; done) | (simp [*]; unfold wrap64; omega)), H', ⟨by have := HJ2.out; have := HJ9.out; have := HJ24.out; have := HJ33.out; have := HJ42.out; first | omega | exact Nat.le_refl _⟩, ⟨by (with_reducible repeat (first | refine blk_drewN ?_ _ | refine blk_drew ?_ | refine blk_alloc ?_ _)); exact BK185.out⟩, ⟨by repeat (first | (with_reducible first | exact HB.out | apply below_alloc | apply pw_below_drewN | apply below_drew1 | refine below_set ?_ GE185.out) | exact HB.out)⟩⟩
           case rest =>
            clear HC52
            try clear c1
            try clear c2
            try clear p2
            try clear c3
            try clear c4
            try clear c5
            try clear c7
            try clear c8
            try clear c11
            try clear c12
            try clear c12b0
            try clear c12b1
            try clear c12b2
            try clear c14
            try clear c14b0
            try clear c14b1
            try clear c14b2
            try clear c17
            try clear c18
            try clear c18b0
            try clear c18b1
            try clear c18b2
            try clear c20
            try clear c20b0
            try clear c20b1
            try clear c20b2
            try clear c21
            try clear c22
            try clear c23
            try clear c24
            try clear c27
            try clear c28
            try clear c28b0
            try clear c28b1
            try clear c28b2
            try clear c30
            try clear c30b0
            try clear c30b1
            try clear c30b2
            try clear c36
            try clear c37
            try clear c37b0
            try clear c37b1
            try clear c37b2
            try clear c39
            try clear c39b0
            try clear c39b1
            try clear c39b2
            try clear c45
            try clear c46
            try clear c46b0
            try clear c46b1
            try clear c46b2
            try clear c48
            try clear c48b0
            try clear c48b1
            try clear c48b2
            try clear c54
            try clear c55
            try clear c55b0
            try clear c55b1
            try clear c55b2
            try clear c57
            try clear c57b0
            try clear c57b1
            try clear c57b2
            try clear hcz15_0
            try clear hcz15_1
            try clear hcz15_2
            try clear hcz15_3
            try clear hcz15_4
            try clear hcz15_5
            try clear hcz15_6
            try clear hcz15_7
            try clear hcz21_0
            try clear hcz21_1
            try clear hcz21_2
            try clear hcz21_3
            try clear hcz21_4
            try clear hcz21_5
            try clear hcz21_6
            try clear hcz21_7
            try clear hcz23_0
            try clear hcz23_1
            try clear hcz23_2
            try clear hcz23_3
            try clear hcz23_4
            try clear hcz23_5
            try clear hcz23_6
            try clear hcz23_7
            try clear hcz26_0
            try clear hcz26_1
            try clear hcz26_2
            try clear hcz26_3
            try clear hcz26_4
            try clear hcz26_5
            try clear hcz26_6
            try clear hcz26_7
            try clear hcz31_0
            try clear hcz31_1
            try clear hcz31_2
            try clear hcz31_3
            try clear hcz31_4
            try clear hcz31_5
            try clear hcz31_6
            try clear hcz31_7
            try clear hcz35_0
            try clear hcz35_1
            try clear hcz35_2
            try clear hcz35_3
            try clear hcz35_4
            try clear hcz35_5
            try clear hcz35_6
            try clear hcz35_7
            try clear hcz40_0
            try clear hcz40_1
            try clear hcz40_2
            try clear hcz40_3
            try clear hcz40_4
            try clear hcz40_5
            try clear hcz40_6
            try clear hcz40_7
            try clear hcz44_0
            try clear hcz44_1
            try clear hcz44_2
            try clear hcz44_3
            try clear hcz44_4
            try clear hcz44_5
            try clear hcz44_6
            try clear hcz44_7
            try clear hcz49_0
            try clear hcz49_1
            try clear hcz49_2
            try clear hcz49_3
            try clear hcz49_4
            try clear hcz49_5
            try clear hcz49_6
            try clear hcz49_7
            try clear hcz53_0
            try clear hcz53_1
            try clear hcz53_2
            try clear hcz53_3
            try clear hcz53_4
            try clear hcz53_5
            try clear hcz53_6
            try clear hcz53_7
            try clear hcz58_0
            try clear hcz58_1
            try clear hcz58_2
            try clear hcz58_3
            try clear hcz58_4
            try clear hcz58_5
            try clear hcz58_6
            try clear hcz58_7
            try clear hcz5_0
            try clear hcz5_1
            try clear hcz5_2
            try clear hcz5_3
            try clear hcz5_4
            try clear hcz5_5
            try clear hcz5_6
            try clear hcz5_7
            try clear hcz8_0
            try clear hcz8_1
            try clear hcz8_2
            try clear hcz8_3
            try clear hcz8_4
            try clear hcz8_5
            try clear hcz8_6
            try clear hcz8_7
            try clear hcz9_0
            try clear hcz9_1
            try clear hcz9_2
            try clear hcz9_3
            try clear hcz9_4
            try clear hcz9_5
            try clear hcz9_6
            try clear hcz9_7
            try clear hfz15_0
            try clear hfz15_1
            try clear hfz15_2
            try clear hfz15_3
            try clear hfz15_4
            try clear hfz15_5
            try clear hfz15_6
            try clear hfz15_7
            try clear hfz21_0
            try clear hfz21_1
            try clear hfz21_2
            try clear hfz21_3
            try clear hfz21_4
            try clear hfz21_5
            try clear hfz21_6
            try clear hfz21_7
            try clear hfz23_0
            try clear hfz23_1
            try clear hfz23_2
            try clear hfz23_3
            try clear hfz23_4
            try clear hfz23_5
            try clear hfz23_6
            try clear hfz23_7
            try clear hfz26_0
            try clear hfz26_1
            try clear hfz26_2
            try clear hfz26_3
            try clear hfz26_4
            try clear hfz26_5
            try clear hfz26_6
            try clear hfz26_7
            try clear hfz31_0
            try clear hfz31_1
            try clear hfz31_2
            try clear hfz31_3
            try clear hfz31_4
            try clear hfz31_5
            try clear hfz31_6
            try clear hfz31_7
            try clear hfz35_0
            try clear hfz35_1
            try clear hfz35_2
            try clear hfz35_3
            try clear hfz35_4
            try clear hfz35_5
            try clear hfz35_6
            try clear hfz35_7
            try clear hfz40_0
            try clear hfz40_1
            try clear hfz40_2
            try clear hfz40_3
            try clear hfz40_4
            try clear hfz40_5
            try clear hfz40_6
            try clear hfz40_7
            try clear hfz44_0
            try clear hfz44_1
            try clear hfz44_2
            try clear hfz44_3
            try clear hfz44_4
            try clear hfz44_5
            try clear hfz44_6
            try clear hfz44_7
            try clear hfz49_0
            try clear hfz49_1
            try clear hfz49_2
            try clear hfz49_3
            try clear hfz49_4
            try clear hfz49_5
            try clear hfz49_6
            try clear hfz49_7
            try clear hfz53_0
            try clear hfz53_1
            try clear hfz53_2
            try clear hfz53_3
            try clear hfz53_4
            try clear hfz53_5
            try clear hfz53_6
            try clear hfz53_7
            try clear hfz58_0
            try clear hfz58_1
            try clear hfz58_2
            try clear hfz58_3
            try clear hfz58_4
            try clear hfz58_5
            try clear hfz58_6
            try clear hfz58_7
            try clear hfz5_0
            try clear hfz5_1
            try clear hfz5_2
            try clear hfz5_3
            try clear hfz5_4
            try clear hfz5_5
            try clear hfz5_6
            try clear hfz5_7
            try clear hfz8_0
            try clear hfz8_1
            try clear hfz8_2
            try clear hfz8_3
            try clear hfz8_4
            try clear hfz8_5
            try clear hfz8_6
            try clear hfz8_7
            try clear hfz9_0
            try clear hfz9_1
            try clear hfz9_2
            try clear hfz9_3
            try clear hfz9_4
            try clear hfz9_5
            try clear hfz9_6
            try clear hfz9_7
            try clear p2
            obtain ⟨kq, x3_51, rfl, HA, HJ51, BK185, HB⟩ := hcut
            cases kq with
            | zero => exact absurd HA.out (by simp [hallmarkref06_Op.j5])
            | succ kj51 =>
             have H := HA.out
             clear HA
             simp only [hallmarkref06_Op.j5] at H
             replace H := Option.bind_eq_some_iff.mp H
             obtain ⟨t199, A600, H⟩ := H
             replace H : (if t199 = true then (if x3_51.size + 2 ≤ 9223372036854775807 then ((hallmarkref06_list.f kj51 l0_6 1).bind fun t200 => (if (x3_51 ++ (⟨#[32, 40]⟩ : ByteArray)).size + t200.size ≤ 9223372036854775807 then (if ((x3_51 ++ (⟨#[32, 40]⟩ : ByteArray)) ++ t200).size + 1 ≤ 9223372036854775807 then ((hallmarkref04_Has.f kj51 a0_0 75).bind fun t201 => (if t201 = true then (if a0_7 = true then (if (((x3_51 ++ (⟨#[32, 40]⟩ : ByteArray)) ++ t200) ++ (⟨#[41]⟩ : ByteArray)).size + 6 ≤ 9223372036854775807 then (some ((((x3_51 ++ (⟨#[32, 40]⟩ : ByteArray)) ++ t200) ++ (⟨#[41]⟩ : ByteArray)) ++ (⟨#[32, 115, 116, 97, 99, 107]⟩ : ByteArray))) else (none)) else (some (((x3_51 ++ (⟨#[32, 40]⟩ : ByteArray)) ++ t200) ++ (⟨#[41]⟩ : ByteArray)))) else (some (((x3_51 ++ (⟨#[32, 40]⟩ : ByteArray)) ++ t200) ++ (⟨#[41]⟩ : ByteArray))))) else (none)) else (none))) else (none)) else ((hallmarkref04_Has.f kj51 a0_0 75).bind fun t202 => (if t202 = true then (if a0_7 = true then (if x3_51.size + 6 ≤ 9223372036854775807 then (some (x3_51 ++ (⟨#[32, 115, 116, 97, 99, 107]⟩ : ByteArray))) else (none)) else (some x3_51)) else (some x3_51)))) = some r := H
             have A60 := zm A600
             clear A600
             by_cases c61 : t199 = true
             ·subst c61
              have H1 : (if x3_51.size + 2 ≤ 9223372036854775807 then ((hallmarkref06_list.f kj51 l0_6 1).bind fun t200 => (if (x3_51 ++ (⟨#[32, 40]⟩ : ByteArray)).size + t200.size ≤ 9223372036854775807 then (if ((x3_51 ++ (⟨#[32, 40]⟩ : ByteArray)) ++ t200).size + 1 ≤ 9223372036854775807 then ((hallmarkref04_Has.f kj51 a0_0 75).bind fun t201 => (if t201 = true then (if a0_7 = true then (if (((x3_51 ++ (⟨#[32, 40]⟩ : ByteArray)) ++ t200) ++ (⟨#[41]⟩ : ByteArray)).size + 6 ≤ 9223372036854775807 then (some ((((x3_51 ++ (⟨#[32, 40]⟩ : ByteArray)) ++ t200) ++ (⟨#[41]⟩ : ByteArray)) ++ (⟨#[32, 115, 116, 97, 99, 107]⟩ : ByteArray))) else (none)) else (some (((x3_51 ++ (⟨#[32, 40]⟩ : ByteArray)) ++ t200) ++ (⟨#[41]⟩ : ByteArray)))) else (some (((x3_51 ++ (⟨#[32, 40]⟩ : ByteArray)) ++ t200) ++ (⟨#[41]⟩ : ByteArray))))) else (none)) else (none))) else (none)) = some r := by rw [if_pos rfl] at H; exact H
              clear H
              have H := H1
              clear H1
              by_cases c62 : x3_51.size + 2 ≤ 9223372036854775807
              ·rw [if_pos c62] at H
               have c62b0 := eq_true c62
               have c62b1 : decide (x3_51.size + 2 ≤ 9223372036854775807) = true := decide_eq_true c62
               try have c62b2 : (9223372036854775807 < x3_51.size + 2) = False := eq_false (Nat.not_lt.2 c62)
               replace H := Option.bind_eq_some_iff.mp H
               obtain ⟨t200, A630, H⟩ := H
               replace H : (if (x3_51 ++ (⟨#[32, 40]⟩ : ByteArray)).size + t200.size ≤ 9223372036854775807 then (if ((x3_51 ++ (⟨#[32, 40]⟩ : ByteArray)) ++ t200).size + 1 ≤ 9223372036854775807 then ((hallmarkref04_Has.f kj51 a0_0 75).bind fun t201 => (if t201 = true then (if a0_7 = true then (if (((x3_51 ++ (⟨#[32, 40]⟩ : ByteArray)) ++ t200) ++ (⟨#[41]⟩ : ByteArray)).size + 6 ≤ 9223372036854775807 then (some ((((x3_51 ++ (⟨#[32, 40]⟩ : ByteArray)) ++ t200) ++ (⟨#[41]⟩ : ByteArray)) ++ (⟨#[32, 115, 116, 97, 99, 107]⟩ : ByteArray))) else (none)) else (some (((x3_51 ++ (⟨#[32, 40]⟩ : ByteArray)) ++ t200) ++ (⟨#[41]⟩ : ByteArray)))) else (some (((x3_51 ++ (⟨#[32, 40]⟩ : ByteArray)) ++ t200) ++ (⟨#[41]⟩ : ByteArray))))) else (none)) else (none)) = some r := H
               have A63 := zm A630
               clear A630
               by_cases c64 : (x3_51 ++ (⟨#[32, 40]⟩ : ByteArray)).size + t200.size ≤ 9223372036854775807
               ·rw [if_pos c64] at H
                have c64b0 := eq_true c64
                have c64b1 : decide ((x3_51 ++ (⟨#[32, 40]⟩ : ByteArray)).size + t200.size ≤ 9223372036854775807) = true := decide_eq_true c64
                have c64n := c64
                simp only [ByteArray.size_append, show (⟨#[32, 40]⟩ : ByteArray).size = 2 from rfl] at c64n
                have c64n0 := eq_true c64n
                have c64n1 := decide_eq_true c64n
                have c64n2 := eq_false (Nat.not_lt.2 c64n)
                clear c64n
                try have c64b2 : (9223372036854775807 < (x3_51 ++ (⟨#[32, 40]⟩ : ByteArray)).size + t200.size) = False := eq_false (Nat.not_lt.2 c64)
                by_cases c65 : ((x3_51 ++ (⟨#[32, 40]⟩ : ByteArray)) ++ t200).size + 1 ≤ 9223372036854775807
                ·rw [if_pos c65] at H
                 have c65b0 := eq_true c65
                 have c65b1 : decide (((x3_51 ++ (⟨#[32, 40]⟩ : ByteArray)) ++ t200).size + 1 ≤ 9223372036854775807) = true := decide_eq_true c65
                 have c65n := c65
                 simp only [ByteArray.size_append, show (⟨#[32, 40]⟩ : ByteArray).size = 2 from rfl] at c65n
                 have c65n0 := eq_true c65n
                 have c65n1 := decide_eq_true c65n
                 have c65n2 := eq_false (Nat.not_lt.2 c65n)
                 clear c65n
                 try have c65b2 : (9223372036854775807 < ((x3_51 ++ (⟨#[32, 40]⟩ : ByteArray)) ++ t200).size + 1) = False := eq_false (Nat.not_lt.2 c65)
                 replace H := Option.bind_eq_some_iff.mp H
                 obtain ⟨t201, A660, H⟩ := H
                 replace H : (if t201 = true then (if a0_7 = true then (if (((x3_51 ++ (⟨#[32, 40]⟩ : ByteArray)) ++ t200) ++ (⟨#[41]⟩ : ByteArray)).size + 6 ≤ 9223372036854775807 then (some ((((x3_51 ++ (⟨#[32, 40]⟩ : ByteArray)) ++ t200) ++ (⟨#[41]⟩ : ByteArray)) ++ (⟨#[32, 115, 116, 97, 99, 107]⟩ : ByteArray))) else (none)) else (some (((x3_51 ++ (⟨#[32, 40]⟩ : ByteArray)) ++ t200) ++ (⟨#[41]⟩ : ByteArray)))) else (some (((x3_51 ++ (⟨#[32, 40]⟩ : ByteArray)) ++ t200) ++ (⟨#[41]⟩ : ByteArray)))) = some r := H
                 have A66 := zm A660
                 clear A660
                 by_cases c67 : t201 = true
                 ·subst c67
                  have H1 : (if a0_7 = true then (if (((x3_51 ++ (⟨#[32, 40]⟩ : ByteArray)) ++ t200) ++ (⟨#[41]⟩ : ByteArray)).size + 6 ≤ 9223372036854775807 then (some ((((x3_51 ++ (⟨#[32, 40]⟩ : ByteArray)) ++ t200) ++ (⟨#[41]⟩ : ByteArray)) ++ (⟨#[32, 115, 116, 97, 99, 107]⟩ : ByteArray))) else (none)) else (some (((x3_51 ++ (⟨#[32, 40]⟩ : ByteArray)) ++ t200) ++ (⟨#[41]⟩ : ByteArray)))) = some r := by rw [if_pos rfl] at H; exact H
                  clear H
                  have H := H1
                  clear H1
                  by_cases c68 : a0_7 = true
                  ·subst c68
                   have H1 : (if (((x3_51 ++ (⟨#[32, 40]⟩ : ByteArray)) ++ t200) ++ (⟨#[41]⟩ : ByteArray)).size + 6 ≤ 9223372036854775807 then (some ((((x3_51 ++ (⟨#[32, 40]⟩ : ByteArray)) ++ t200) ++ (⟨#[41]⟩ : ByteArray)) ++ (⟨#[32, 115, 116, 97, 99, 107]⟩ : ByteArray))) else (none)) = some r := by rw [if_pos rfl] at H; exact H
                   clear H
                   have H := H1
                   clear H1
                   by_cases c69 : (((x3_51 ++ (⟨#[32, 40]⟩ : ByteArray)) ++ t200) ++ (⟨#[41]⟩ : ByteArray)).size + 6 ≤ 9223372036854775807
                   ·rw [if_pos c69] at H
                    have c69b0 := eq_true c69
                    have c69b1 : decide ((((x3_51 ++ (⟨#[32, 40]⟩ : ByteArray)) ++ t200) ++ (⟨#[41]⟩ : ByteArray)).size + 6 ≤ 9223372036854775807) = true := decide_eq_true c69
                    have c69n := c69
                    simp only [ByteArray.size_append, show (⟨#[32, 40]⟩ : ByteArray).size = 2 from rfl, show (⟨#[41]⟩ : ByteArray).size = 1 from rfl] at c69n
                    have c69n0 := eq_true c69n
                    have c69n1 := decide_eq_true c69n
                    have c69n2 := eq_false (Nat.not_lt.2 c69n)
                    clear c69n
                    try have c69b2 : (9223372036854775807 < (((x3_51 ++ (⟨#[32, 40]⟩ : ByteArray)) ++ t200) ++ (⟨#[41]⟩ : ByteArray)).size + 6) = False := eq_false (Nat.not_lt.2 c69)
                    obtain rfl := Option.some.inj H
                    have hcz70_0 : wc.cell? ⟨gb185, 0, none⟩ = some (.int .i64 a0_0) := (blk_cell BK185.out 0).trans rfl
                    have hcz70_1 : wc.cell? ⟨gb185, 1, none⟩ = some (.int .i64 a0_1) := (blk_cell BK185.out 1).trans rfl
                    have hcz70_2 : wc.cell? ⟨gb185, 2, none⟩ = some (.int .i64 a0_2) := (blk_cell BK185.out 2).trans rfl
                    have hcz70_3 : wc.cell? ⟨gb185, 3, none⟩ = some (.int .i64 a0_3) := (blk_cell BK185.out 3).trans rfl
                    have hcz70_4 : wc.cell? ⟨gb185, 4, none⟩ = some (.int .i64 a0_4) := (blk_cell BK185.out 4).trans rfl
                    have hcz70_5 : wc.cell? ⟨gb185, 5, none⟩ = some (.string a0_5) := (blk_cell BK185.out 5).trans rfl
                    have hcz70_6 : wc.cell? ⟨gb185, 6, none⟩ = some (.slice A0_6 l0_6.length c0_6) := (blk_cell BK185.out 6).trans rfl
                    have hcz70_7 : wc.cell? ⟨gb185, 7, none⟩ = some (.bool true) := (blk_cell BK185.out 7).trans rfl
                    have hfz70_0 := blk_frozen BK185.out 0
                    have hfz70_1 := blk_frozen BK185.out 1
                    have hfz70_2 := blk_frozen BK185.out 2
                    have hfz70_3 := blk_frozen BK185.out 3
                    have hfz70_4 := blk_frozen BK185.out 4
                    have hfz70_5 := blk_frozen BK185.out 5
                    have hfz70_6 := blk_frozen BK185.out 6
                    have hfz70_7 := blk_frozen BK185.out 7
                    go_wp2_with (first | ((with_reducible refine gate_callee (f := 21) rfl ?_); refine goesL_ (some 68) rfl rfl Tryd.func21 (by kernel_rfl) rfl #[.int .i64 a0_0, .int .u8 76] rfl (by (try simp only [List.map_toArray, List.map_cons, List.map_nil]); first | done | rfl | (simp only [List.length_drop, List.length_take]; rfl)) ?_; (with_reducible refine (hallmarkref04_Has.calls kj51 a0_0 76 true _ A60.out).mono ?_); rintro e w' ⟨rfl, ⟨nd, rfl⟩⟩; refine ⟨_, rfl, ?_⟩) | ((with_reducible refine gate_callee (f := 25) rfl ?_); refine goesL_ (some 73) rfl rfl Tryd.func25 (by kernel_rfl) rfl #[.slice A0_6 l0_6.length c0_6, .int .i64 1] rfl (by (try simp only [List.map_toArray, List.map_cons, List.map_nil]); first | done | rfl | (simp only [List.length_drop, List.length_take]; rfl)) ?_; (with_reducible refine (hallmarkref06_list.calls kj51 _ _ l0_6 1 t200 _ ?side1 ?side2 A63.out).mono ?_); (case side1 => repeat (first | exact (Kd.C_below HR0_6.out (by repeat (first | (with_reducible first | exact HB.out | apply below_alloc | apply pw_below_drewN | apply below_drew1 | refine below_set ?_ GE185.out) | exact HB.out))) | (with_reducible refine Kd.C_alloc ?_ _) | (with_reducible refine Kd.C_drewN ?_ _) | (with_reducible refine Kd.C_drew ?_))); (case side2 => exact HC0_6.out); rintro e w71 ⟨rfl, hb⟩; refine ⟨_, rfl, ?_⟩; have n0_ := zm (blk_below (g := gb185) (o := .cells #[.int .i64 a0_0, .int .i64 a0_1, .int .i64 a0_2, .int .i64 a0_3, .int .i64 a0_4, .string a0_5, .slice A0_6 l0_6.length c0_6, .bool true] 24 (0, 0)) (by (with_reducible repeat (first | refine blk_drewN ?_ _ | refine blk_drew ?_ | refine blk_alloc ?_ _)); exact BK185.out) hb); have n1_ := zm (below_step (by repeat (first | (with_reducible first | exact HB.out | apply below_alloc | apply pw_below_drewN | apply below_drew1 | refine below_set ?_ GE185.out) | exact HB.out)) hb); clear BK185; clear HB; have BK185 := n0_; have HB := n1_; clear n0_ n1_; (try clear hb); (try clear hb2); (try clear hk); (try clear hi); have hcz72_0 : w71.cell? ⟨gb185, 0, none⟩ = some (.int .i64 a0_0) := (blk_cell BK185.out 0).trans rfl; have hcz72_1 : w71.cell? ⟨gb185, 1, none⟩ = some (.int .i64 a0_1) := (blk_cell BK185.out 1).trans rfl; have hcz72_2 : w71.cell? ⟨gb185, 2, none⟩ = some (.int .i64 a0_2) := (blk_cell BK185.out 2).trans rfl; have hcz72_3 : w71.cell? ⟨gb185, 3, none⟩ = some (.int .i64 a0_3) := (blk_cell BK185.out 3).trans rfl; have hcz72_4 : w71.cell? ⟨gb185, 4, none⟩ = some (.int .i64 a0_4) := (blk_cell BK185.out 4).trans rfl; have hcz72_5 : w71.cell? ⟨gb185, 5, none⟩ = some (.string a0_5) := (blk_cell BK185.out 5).trans rfl; have hcz72_6 : w71.cell? ⟨gb185, 6, none⟩ = some (.slice A0_6 l0_6.length c0_6) := (blk_cell BK185.out 6).trans rfl; have hcz72_7 : w71.cell? ⟨gb185, 7, none⟩ = some (.bool true) := (blk_cell BK185.out 7).trans rfl; have hfz72_0 := blk_frozen BK185.out 0; have hfz72_1 := blk_frozen BK185.out 1; have hfz72_2 := blk_frozen BK185.out 2; have hfz72_3 := blk_frozen BK185.out 3; have hfz72_4 := blk_frozen BK185.out 4; have hfz72_5 := blk_frozen BK185.out 5; have hfz72_6 := blk_frozen BK185.out 6; have hfz72_7 := blk_frozen BK185.out 7) | ((with_reducible refine gate_callee (f := 21) rfl ?_); refine goesL_ (some 78) rfl rfl Tryd.func21 (by kernel_rfl) rfl #[.int .i64 a0_0, .int .u8 75] rfl (by (try simp only [List.map_toArray, List.map_cons, List.map_nil]); first | done | rfl | (simp only [List.length_drop, List.length_take]; rfl)) ?_; (with_reducible refine (hallmarkref04_Has.calls kj51 a0_0 75 true _ A66.out).mono ?_); rintro e w' ⟨rfl, ⟨nd, rfl⟩⟩; refine ⟨_, rfl, ?_⟩))
                    go_ret
                    exact ⟨by first | rfl | (simp [errW_none, errW_some] <;> rfl) | (simp [*, errW_none, errW_some] <;> rfl), by repeat (first | (with_reducible first | exact HB.out | apply below_alloc | apply pw_below_drewN | apply below_drew1 | refine below_set ?_ GE185.out) | exact HB.out)⟩
                   ·rw [if_neg c69] at H
                    exact absurd H (by simp)
                  ·replace c68 := Bool.eq_false_iff.mpr c68
                   subst c68
                   have H1 : (some (((x3_51 ++ (⟨#[32, 40]⟩ : ByteArray)) ++ t200) ++ (⟨#[41]⟩ : ByteArray))) = some r := by rw [if_neg (show ¬ (false = true) by decide)] at H; exact H
                   clear H
                   have H := H1
                   clear H1
                   obtain rfl := Option.some.inj H
                   have hcz73_0 : wc.cell? ⟨gb185, 0, none⟩ = some (.int .i64 a0_0) := (blk_cell BK185.out 0).trans rfl
                   have hcz73_1 : wc.cell? ⟨gb185, 1, none⟩ = some (.int .i64 a0_1) := (blk_cell BK185.out 1).trans rfl
                   have hcz73_2 : wc.cell? ⟨gb185, 2, none⟩ = some (.int .i64 a0_2) := (blk_cell BK185.out 2).trans rfl
                   have hcz73_3 : wc.cell? ⟨gb185, 3, none⟩ = some (.int .i64 a0_3) := (blk_cell BK185.out 3).trans rfl
                   have hcz73_4 : wc.cell? ⟨gb185, 4, none⟩ = some (.int .i64 a0_4) := (blk_cell BK185.out 4).trans rfl
                   have hcz73_5 : wc.cell? ⟨gb185, 5, none⟩ = some (.string a0_5) := (blk_cell BK185.out 5).trans rfl
                   have hcz73_6 : wc.cell? ⟨gb185, 6, none⟩ = some (.slice A0_6 l0_6.length c0_6) := (blk_cell BK185.out 6).trans rfl
                   have hcz73_7 : wc.cell? ⟨gb185, 7, none⟩ = some (.bool false) := (blk_cell BK185.out 7).trans rfl
                   have hfz73_0 := blk_frozen BK185.out 0
                   have hfz73_1 := blk_frozen BK185.out 1
                   have hfz73_2 := blk_frozen BK185.out 2
                   have hfz73_3 := blk_frozen BK185.out 3
                   have hfz73_4 := blk_frozen BK185.out 4
                   have hfz73_5 := blk_frozen BK185.out 5
                   have hfz73_6 := blk_frozen BK185.out 6
                   have hfz73_7 := blk_frozen BK185.out 7
                   go_wp2_with (first | ((with_reducible refine gate_callee (f := 21) rfl ?_); refine goesL_ (some 68) rfl rfl Tryd.func21 (by kernel_rfl) rfl #[.int .i64 a0_0, .int .u8 76] rfl (by (try simp only [List.map_toArray, List.map_cons, List.map_nil]); first | done | rfl | (simp only [List.length_drop, List.length_take]; rfl)) ?_; (with_reducible refine (hallmarkref04_Has.calls kj51 a0_0 76 true _ A60.out).mono ?_); rintro e w' ⟨rfl, ⟨nd, rfl⟩⟩; refine ⟨_, rfl, ?_⟩) | ((with_reducible refine gate_callee (f := 25) rfl ?_); refine goesL_ (some 73) rfl rfl Tryd.func25 (by kernel_rfl) rfl #[.slice A0_6 l0_6.length c0_6, .int .i64 1] rfl (by (try simp only [List.map_toArray, List.map_cons, List.map_nil]); first | done | rfl | (simp only [List.length_drop, List.length_take]; rfl)) ?_; (with_reducible refine (hallmarkref06_list.calls kj51 _ _ l0_6 1 t200 _ ?side1 ?side2 A63.out).mono ?_); (case side1 => repeat (first | exact (Kd.C_below HR0_6.out (by repeat (first | (with_reducible first | exact HB.out | apply below_alloc | apply pw_below_drewN | apply below_drew1 | refine below_set ?_ GE185.out) | exact HB.out))) | (with_reducible refine Kd.C_alloc ?_ _) | (with_reducible refine Kd.C_drewN ?_ _) | (with_reducible refine Kd.C_drew ?_))); (case side2 => exact HC0_6.out); rintro e w74 ⟨rfl, hb⟩; refine ⟨_, rfl, ?_⟩; have n0_ := zm (blk_below (g := gb185) (o := .cells #[.int .i64 a0_0, .int .i64 a0_1, .int .i64 a0_2, .int .i64 a0_3, .int .i64 a0_4, .string a0_5, .slice A0_6 l0_6.length c0_6, .bool false] 24 (0, 0)) (by (with_reducible repeat (first | refine blk_drewN ?_ _ | refine blk_drew ?_ | refine blk_alloc ?_ _)); exact BK185.out) hb); have n1_ := zm (below_step (by repeat (first | (with_reducible first | exact HB.out | apply below_alloc | apply pw_below_drewN | apply below_drew1 | refine below_set ?_ GE185.out) | exact HB.out)) hb); clear BK185; clear HB; have BK185 := n0_; have HB := n1_; clear n0_ n1_; (try clear hb); (try clear hb2); (try clear hk); (try clear hi); have hcz75_0 : w74.cell? ⟨gb185, 0, none⟩ = some (.int .i64 a0_0) := (blk_cell BK185.out 0).trans rfl; have hcz75_1 : w74.cell? ⟨gb185, 1, none⟩ = some (.int .i64 a0_1) := (blk_cell BK185.out 1).trans rfl; have hcz75_2 : w74.cell? ⟨gb185, 2, none⟩ = some (.int .i64 a0_2) := (blk_cell BK185.out 2).trans rfl; have hcz75_3 : w74.cell? ⟨gb185, 3, none⟩ = some (.int .i64 a0_3) := (blk_cell BK185.out 3).trans rfl; have hcz75_4 : w74.cell? ⟨gb185, 4, none⟩ = some (.int .i64 a0_4) := (blk_cell BK185.out 4).trans rfl; have hcz75_5 : w74.cell? ⟨gb185, 5, none⟩ = some (.string a0_5) := (blk_cell BK185.out 5).trans rfl; have hcz75_6 : w74.cell? ⟨gb185, 6, none⟩ = some (.slice A0_6 l0_6.length c0_6) := (blk_cell BK185.out 6).trans rfl; have hcz75_7 : w74.cell? ⟨gb185, 7, none⟩ = some (.bool false) := (blk_cell BK185.out 7).trans rfl; have hfz75_0 := blk_frozen BK185.out 0; have hfz75_1 := blk_frozen BK185.out 1; have hfz75_2 := blk_frozen BK185.out 2; have hfz75_3 := blk_frozen BK185.out 3; have hfz75_4 := blk_frozen BK185.out 4; have hfz75_5 := blk_frozen BK185.out 5; have hfz75_6 := blk_frozen BK185.out 6; have hfz75_7 := blk_frozen BK185.out 7) | ((with_reducible refine gate_callee (f := 21) rfl ?_); refine goesL_ (some 78) rfl rfl Tryd.func21 (by kernel_rfl) rfl #[.int .i64 a0_0, .int .u8 75] rfl (by (try simp only [List.map_toArray, List.map_cons, List.map_nil]); first | done | rfl | (simp only [List.length_drop, List.length_take]; rfl)) ?_; (with_reducible refine (hallmarkref04_Has.calls kj51 a0_0 75 true _ A66.out).mono ?_); rintro e w' ⟨rfl, ⟨nd, rfl⟩⟩; refine ⟨_, rfl, ?_⟩))
                   go_ret
                   exact ⟨by first | rfl | (simp [errW_none, errW_some] <;> rfl) | (simp [*, errW_none, errW_some] <;> rfl), by repeat (first | (with_reducible first | exact HB.out | apply below_alloc | apply pw_below_drewN | apply below_drew1 | refine below_set ?_ GE185.out) | exact HB.out)⟩
                 ·replace c67 := Bool.eq_false_iff.mpr c67
                  subst c67
                  have H1 : (some (((x3_51 ++ (⟨#[32, 40]⟩ : ByteArray)) ++ t200) ++ (⟨#[41]⟩ : ByteArray))) = some r := by rw [if_neg (show ¬ (false = true) by decide)] at H; exact H
                  clear H
                  have H := H1
                  clear H1
                  obtain rfl := Option.some.inj H
                  have hcz76_0 : wc.cell? ⟨gb185, 0, none⟩ = some (.int .i64 a0_0) := (blk_cell BK185.out 0).trans rfl
                  have hcz76_1 : wc.cell? ⟨gb185, 1, none⟩ = some (.int .i64 a0_1) := (blk_cell BK185.out 1).trans rfl
                  have hcz76_2 : wc.cell? ⟨gb185, 2, none⟩ = some (.int .i64 a0_2) := (blk_cell BK185.out 2).trans rfl
                  have hcz76_3 : wc.cell? ⟨gb185, 3, none⟩ = some (.int .i64 a0_3) := (blk_cell BK185.out 3).trans rfl
                  have hcz76_4 : wc.cell? ⟨gb185, 4, none⟩ = some (.int .i64 a0_4) := (blk_cell BK185.out 4).trans rfl
                  have hcz76_5 : wc.cell? ⟨gb185, 5, none⟩ = some (.string a0_5) := (blk_cell BK185.out 5).trans rfl
                  have hcz76_6 : wc.cell? ⟨gb185, 6, none⟩ = some (.slice A0_6 l0_6.length c0_6) := (blk_cell BK185.out 6).trans rfl
                  have hcz76_7 : wc.cell? ⟨gb185, 7, none⟩ = some (.bool a0_7) := (blk_cell BK185.out 7).trans rfl
                  have hfz76_0 := blk_frozen BK185.out 0
                  have hfz76_1 := blk_frozen BK185.out 1
                  have hfz76_2 := blk_frozen BK185.out 2
                  have hfz76_3 := blk_frozen BK185.out 3
                  have hfz76_4 := blk_frozen BK185.out 4
                  have hfz76_5 := blk_frozen BK185.out 5
                  have hfz76_6 := blk_frozen BK185.out 6
                  have hfz76_7 := blk_frozen BK185.out 7
                  go_wp2_with (first | ((with_reducible refine gate_callee (f := 21) rfl ?_); refine goesL_ (some 68) rfl rfl Tryd.func21 (by kernel_rfl) rfl #[.int .i64 a0_0, .int .u8 76] rfl (by (try simp only [List.map_toArray, List.map_cons, List.map_nil]); first | done | rfl | (simp only [List.length_drop, List.length_take]; rfl)) ?_; (with_reducible refine (hallmarkref04_Has.calls kj51 a0_0 76 true _ A60.out).mono ?_); rintro e w' ⟨rfl, ⟨nd, rfl⟩⟩; refine ⟨_, rfl, ?_⟩) | ((with_reducible refine gate_callee (f := 25) rfl ?_); refine goesL_ (some 73) rfl rfl Tryd.func25 (by kernel_rfl) rfl #[.slice A0_6 l0_6.length c0_6, .int .i64 1] rfl (by (try simp only [List.map_toArray, List.map_cons, List.map_nil]); first | done | rfl | (simp only [List.length_drop, List.length_take]; rfl)) ?_; (with_reducible refine (hallmarkref06_list.calls kj51 _ _ l0_6 1 t200 _ ?side1 ?side2 A63.out).mono ?_); (case side1 => repeat (first | exact (Kd.C_below HR0_6.out (by repeat (first | (with_reducible first | exact HB.out | apply below_alloc | apply pw_below_drewN | apply below_drew1 | refine below_set ?_ GE185.out) | exact HB.out))) | (with_reducible refine Kd.C_alloc ?_ _) | (with_reducible refine Kd.C_drewN ?_ _) | (with_reducible refine Kd.C_drew ?_))); (case side2 => exact HC0_6.out); rintro e w77 ⟨rfl, hb⟩; refine ⟨_, rfl, ?_⟩; have n0_ := zm (blk_below (g := gb185) (o := .cells #[.int .i64 a0_0, .int .i64 a0_1, .int .i64 a0_2, .int .i64 a0_3, .int .i64 a0_4, .string a0_5, .slice A0_6 l0_6.length c0_6, .bool a0_7] 24 (0, 0)) (by (with_reducible repeat (first | refine blk_drewN ?_ _ | refine blk_drew ?_ | refine blk_alloc ?_ _)); exact BK185.out) hb); have n1_ := zm (below_step (by repeat (first | (with_reducible first | exact HB.out | apply below_alloc | apply pw_below_drewN | apply below_drew1 | refine below_set ?_ GE185.out) | exact HB.out)) hb); clear BK185; clear HB; have BK185 := n0_; have HB := n1_; clear n0_ n1_; (try clear hb); (try clear hb2); (try clear hk); (try clear hi); have hcz78_0 : w77.cell? ⟨gb185, 0, none⟩ = some (.int .i64 a0_0) := (blk_cell BK185.out 0).trans rfl; have hcz78_1 : w77.cell? ⟨gb185, 1, none⟩ = some (.int .i64 a0_1) := (blk_cell BK185.out 1).trans rfl; have hcz78_2 : w77.cell? ⟨gb185, 2, none⟩ = some (.int .i64 a0_2) := (blk_cell BK185.out 2).trans rfl; have hcz78_3 : w77.cell? ⟨gb185, 3, none⟩ = some (.int .i64 a0_3) := (blk_cell BK185.out 3).trans rfl; have hcz78_4 : w77.cell? ⟨gb185, 4, none⟩ = some (.int .i64 a0_4) := (blk_cell BK185.out 4).trans rfl; have hcz78_5 : w77.cell? ⟨gb185, 5, none⟩ = some (.string a0_5) := (blk_cell BK185.out 5).trans rfl; have hcz78_6 : w77.cell? ⟨gb185, 6, none⟩ = some (.slice A0_6 l0_6.length c0_6) := (blk_cell BK185.out 6).trans rfl; have hcz78_7 : w77.cell? ⟨gb185, 7, none⟩ = some (.bool a0_7) := (blk_cell BK185.out 7).trans rfl; have hfz78_0 := blk_frozen BK185.out 0; have hfz78_1 := blk_frozen BK185.out 1; have hfz78_2 := blk_frozen BK185.out 2; have hfz78_3 := blk_frozen BK185.out 3; have hfz78_4 := blk_frozen BK185.out 4; have hfz78_5 := blk_frozen BK185.out 5; have hfz78_6 := blk_frozen BK185.out 6; have hfz78_7 := blk_frozen BK185.out 7) | ((with_reducible refine gate_callee (f := 21) rfl ?_); refine goesL_ (some 78) rfl rfl Tryd.func21 (by kernel_rfl) rfl #[.int .i64 a0_0, .int .u8 75] rfl (by (try simp only [List.map_toArray, List.map_cons, List.map_nil]); first | done | rfl | (simp only [List.length_drop, List.length_take]; rfl)) ?_; (with_reducible refine (hallmarkref04_Has.calls kj51 a0_0 75 false _ A66.out).mono ?_); rintro e w' ⟨rfl, ⟨nd, rfl⟩⟩; refine ⟨_, rfl, ?_⟩))
                  go_ret
                  exact ⟨by first | rfl | (simp [errW_none, errW_some] <;> rfl) | (simp [*, errW_none, errW_some] <;> rfl), by repeat (first | (with_reducible first | exact HB.out | apply below_alloc | apply pw_below_drewN | apply below_drew1 | refine below_set ?_ GE185.out) | exact HB.out)⟩
                ·rw [if_neg c65] at H
                 exact absurd H (by simp)
               ·rw [if_neg c64] at H
                exact absurd H (by simp)
              ·rw [if_neg c62] at H
               exact absurd H (by simp)
             ·replace c61 := Bool.eq_false_iff.mpr c61
              subst c61
              have H1 : ((hallmarkref04_Has.f kj51 a0_0 75).bind fun t202 => (if t202 = true then (if a0_7 = true then (if x3_51.size + 6 ≤ 9223372036854775807 then (some (x3_51 ++ (⟨#[32, 115, 116, 97, 99, 107]⟩ : ByteArray))) else (none)) else (some x3_51)) else (some x3_51))) = some r := by rw [if_neg (show ¬ (false = true) by decide)] at H; exact H
              clear H
              have H := H1
              clear H1
              replace H := Option.bind_eq_some_iff.mp H
              obtain ⟨t202, A790, H⟩ := H
              replace H : (if t202 = true then (if a0_7 = true then (if x3_51.size + 6 ≤ 9223372036854775807 then (some (x3_51 ++ (⟨#[32, 115, 116, 97, 99, 107]⟩ : ByteArray))) else (none)) else (some x3_51)) else (some x3_51)) = some r := H
              have A79 := zm A790
              clear A790
              by_cases c80 : t202 = true
              ·subst c80
               have H1 : (if a0_7 = true then (if x3_51.size + 6 ≤ 9223372036854775807 then (some (x3_51 ++ (⟨#[32, 115, 116, 97, 99, 107]⟩ : ByteArray))) else (none)) else (some x3_51)) = some r := by rw [if_pos rfl] at H; exact H
               clear H
               have H := H1
               clear H1
               by_cases c81 : a0_7 = true
               ·subst c81
                have H1 : (if x3_51.size + 6 ≤ 9223372036854775807 then (some (x3_51 ++ (⟨#[32, 115, 116, 97, 99, 107]⟩ : ByteArray))) else (none)) = some r := by rw [if_pos rfl] at H; exact H
                clear H
                have H := H1
                clear H1
                by_cases c82 : x3_51.size + 6 ≤ 9223372036854775807
                ·rw [if_pos c82] at H
                 have c82b0 := eq_true c82
                 have c82b1 : decide (x3_51.size + 6 ≤ 9223372036854775807) = true := decide_eq_true c82
                 try have c82b2 : (9223372036854775807 < x3_51.size + 6) = False := eq_false (Nat.not_lt.2 c82)
                 obtain rfl := Option.some.inj H
                 have hcz83_0 : wc.cell? ⟨gb185, 0, none⟩ = some (.int .i64 a0_0) := (blk_cell BK185.out 0).trans rfl
                 have hcz83_1 : wc.cell? ⟨gb185, 1, none⟩ = some (.int .i64 a0_1) := (blk_cell BK185.out 1).trans rfl
                 have hcz83_2 : wc.cell? ⟨gb185, 2, none⟩ = some (.int .i64 a0_2) := (blk_cell BK185.out 2).trans rfl
                 have hcz83_3 : wc.cell? ⟨gb185, 3, none⟩ = some (.int .i64 a0_3) := (blk_cell BK185.out 3).trans rfl
                 have hcz83_4 : wc.cell? ⟨gb185, 4, none⟩ = some (.int .i64 a0_4) := (blk_cell BK185.out 4).trans rfl
                 have hcz83_5 : wc.cell? ⟨gb185, 5, none⟩ = some (.string a0_5) := (blk_cell BK185.out 5).trans rfl
                 have hcz83_6 : wc.cell? ⟨gb185, 6, none⟩ = some (.slice A0_6 l0_6.length c0_6) := (blk_cell BK185.out 6).trans rfl
                 have hcz83_7 : wc.cell? ⟨gb185, 7, none⟩ = some (.bool true) := (blk_cell BK185.out 7).trans rfl
                 have hfz83_0 := blk_frozen BK185.out 0
                 have hfz83_1 := blk_frozen BK185.out 1
                 have hfz83_2 := blk_frozen BK185.out 2
                 have hfz83_3 := blk_frozen BK185.out 3
                 have hfz83_4 := blk_frozen BK185.out 4
                 have hfz83_5 := blk_frozen BK185.out 5
                 have hfz83_6 := blk_frozen BK185.out 6
                 have hfz83_7 := blk_frozen BK185.out 7
                 go_wp2_with (first | ((with_reducible refine gate_callee (f := 21) rfl ?_); refine goesL_ (some 68) rfl rfl Tryd.func21 (by kernel_rfl) rfl #[.int .i64 a0_0, .int .u8 76] rfl (by (try simp only [List.map_toArray, List.map_cons, List.map_nil]); first | done | rfl | (simp only [List.length_drop, List.length_take]; rfl)) ?_; (with_reducible refine (hallmarkref04_Has.calls kj51 a0_0 76 false _ A60.out).mono ?_); rintro e w' ⟨rfl, ⟨nd, rfl⟩⟩; refine ⟨_, rfl, ?_⟩) | ((with_reducible refine gate_callee (f := 21) rfl ?_); refine goesL_ (some 78) rfl rfl Tryd.func21 (by kernel_rfl) rfl #[.int .i64 a0_0, .int .u8 75] rfl (by (try simp only [List.map_toArray, List.map_cons, List.map_nil]); first | done | rfl | (simp only [List.length_drop, List.length_take]; rfl)) ?_; (with_reducible refine (hallmarkref04_Has.calls kj51 a0_0 75 true _ A79.out).mono ?_); rintro e w' ⟨rfl, ⟨nd, rfl⟩⟩; refine ⟨_, rfl, ?_⟩))
                 go_ret
                 exact ⟨by first | rfl | (simp [errW_none, errW_some] <;> rfl) | (simp [*, errW_none, errW_some] <;> rfl), by repeat (first | (with_reducible first | exact HB.out | apply below_alloc | apply pw_below_drewN | apply below_drew1 | refine below_set ?_ GE185.out) | exact HB.out)⟩
                ·rw [if_neg c82] at H
                 exact absurd H (by simp)
               ·replace c81 := Bool.eq_false_iff.mpr c81
                subst c81
                have H1 : (some x3_51) = some r := by rw [if_neg (show ¬ (false = true) by decide)] at H; exact H
                clear H
                have H := H1
                clear H1
                obtain rfl := Option.some.inj H
                have hcz84_0 : wc.cell? ⟨gb185, 0, none⟩ = some (.int .i64 a0_0) := (blk_cell BK185.out 0).trans rfl
                have hcz84_1 : wc.cell? ⟨gb185, 1, none⟩ = some (.int .i64 a0_1) := (blk_cell BK185.out 1).trans rfl
                have hcz84_2 : wc.cell? ⟨gb185, 2, none⟩ = some (.int .i64 a0_2) := (blk_cell BK185.out 2).trans rfl
                have hcz84_3 : wc.cell? ⟨gb185, 3, none⟩ = some (.int .i64 a0_3) := (blk_cell BK185.out 3).trans rfl
                have hcz84_4 : wc.cell? ⟨gb185, 4, none⟩ = some (.int .i64 a0_4) := (blk_cell BK185.out 4).trans rfl
                have hcz84_5 : wc.cell? ⟨gb185, 5, none⟩ = some (.string a0_5) := (blk_cell BK185.out 5).trans rfl
                have hcz84_6 : wc.cell? ⟨gb185, 6, none⟩ = some (.slice A0_6 l0_6.length c0_6) := (blk_cell BK185.out 6).trans rfl
                have hcz84_7 : wc.cell? ⟨gb185, 7, none⟩ = some (.bool false) := (blk_cell BK185.out 7).trans rfl
                have hfz84_0 := blk_frozen BK185.out 0
                have hfz84_1 := blk_frozen BK185.out 1
                have hfz84_2 := blk_frozen BK185.out 2
                have hfz84_3 := blk_frozen BK185.out 3
                have hfz84_4 := blk_frozen BK185.out 4
                have hfz84_5 := blk_frozen BK185.out 5
                have hfz84_6 := blk_frozen BK185.out 6
                have hfz84_7 := blk_frozen BK185.out 7
                go_wp2_with (first | ((with_reducible refine gate_callee (f := 21) rfl ?_); refine goesL_ (some 68) rfl rfl Tryd.func21 (by kernel_rfl) rfl #[.int .i64 a0_0, .int .u8 76] rfl (by (try simp only [List.map_toArray, List.map_cons, List.map_nil]); first | done | rfl | (simp only [List.length_drop, List.length_take]; rfl)) ?_; (with_reducible refine (hallmarkref04_Has.calls kj51 a0_0 76 false _ A60.out).mono ?_); rintro e w' ⟨rfl, ⟨nd, rfl⟩⟩; refine ⟨_, rfl, ?_⟩) | ((with_reducible refine gate_callee (f := 21) rfl ?_); refine goesL_ (some 78) rfl rfl Tryd.func21 (by kernel_rfl) rfl #[.int .i64 a0_0, .int .u8 75] rfl (by (try simp only [List.map_toArray, List.map_cons, List.map_nil]); first | done | rfl | (simp only [List.length_drop, List.length_take]; rfl)) ?_; (with_reducible refine (hallmarkref04_Has.calls kj51 a0_0 75 true _ A79.out).mono ?_); rintro e w' ⟨rfl, ⟨nd, rfl⟩⟩; refine ⟨_, rfl, ?_⟩))
                go_ret
                exact ⟨by first | rfl | (simp [errW_none, errW_some] <;> rfl) | (simp [*, errW_none, errW_some] <;> rfl), by repeat (first | (with_reducible first | exact HB.out | apply below_alloc | apply pw_below_drewN | apply below_drew1 | refine below_set ?_ GE185.out) | exact HB.out)⟩
              ·replace c80 := Bool.eq_false_iff.mpr c80
               subst c80
               have H1 : (some x3_51) = some r := by rw [if_neg (show ¬ (false = true) by decide)] at H; exact H
               clear H
               have H := H1
               clear H1
               obtain rfl := Option.some.inj H
               have hcz85_0 : wc.cell? ⟨gb185, 0, none⟩ = some (.int .i64 a0_0) := (blk_cell BK185.out 0).trans rfl
               have hcz85_1 : wc.cell? ⟨gb185, 1, none⟩ = some (.int .i64 a0_1) := (blk_cell BK185.out 1).trans rfl
               have hcz85_2 : wc.cell? ⟨gb185, 2, none⟩ = some (.int .i64 a0_2) := (blk_cell BK185.out 2).trans rfl
               have hcz85_3 : wc.cell? ⟨gb185, 3, none⟩ = some (.int .i64 a0_3) := (blk_cell BK185.out 3).trans rfl
               have hcz85_4 : wc.cell? ⟨gb185, 4, none⟩ = some (.int .i64 a0_4) := (blk_cell BK185.out 4).trans rfl
               have hcz85_5 : wc.cell? ⟨gb185, 5, none⟩ = some (.string a0_5) := (blk_cell BK185.out 5).trans rfl
               have hcz85_6 : wc.cell? ⟨gb185, 6, none⟩ = some (.slice A0_6 l0_6.length c0_6) := (blk_cell BK185.out 6).trans rfl
               have hcz85_7 : wc.cell? ⟨gb185, 7, none⟩ = some (.bool a0_7) := (blk_cell BK185.out 7).trans rfl
               have hfz85_0 := blk_frozen BK185.out 0
               have hfz85_1 := blk_frozen BK185.out 1
               have hfz85_2 := blk_frozen BK185.out 2
               have hfz85_3 := blk_frozen BK185.out 3
               have hfz85_4 := blk_frozen BK185.out 4
               have hfz85_5 := blk_frozen BK185.out 5
               have hfz85_6 := blk_frozen BK185.out 6
               have hfz85_7 := blk_frozen BK185.out 7
               go_wp2_with (first | ((with_reducible refine gate_callee (f := 21) rfl ?_); refine goesL_ (some 68) rfl rfl Tryd.func21 (by kernel_rfl) rfl #[.int .i64 a0_0, .int .u8 76] rfl (by (try simp only [List.map_toArray, List.map_cons, List.map_nil]); first | done | rfl | (simp only [List.length_drop, List.length_take]; rfl)) ?_; (with_reducible refine (hallmarkref04_Has.calls kj51 a0_0 76 false _ A60.out).mono ?_); rintro e w' ⟨rfl, ⟨nd, rfl⟩⟩; refine ⟨_, rfl, ?_⟩) | ((with_reducible refine gate_callee (f := 21) rfl ?_); refine goesL_ (some 78) rfl rfl Tryd.func21 (by kernel_rfl) rfl #[.int .i64 a0_0, .int .u8 75] rfl (by (try simp only [List.map_toArray, List.map_cons, List.map_nil]); first | done | rfl | (simp only [List.length_drop, List.length_take]; rfl)) ?_; (with_reducible refine (hallmarkref04_Has.calls kj51 a0_0 75 false _ A79.out).mono ?_); rintro e w' ⟨rfl, ⟨nd, rfl⟩⟩; refine ⟨_, rfl, ?_⟩))
               go_ret
               exact ⟨by first | rfl | (simp [errW_none, errW_some] <;> rfl) | (simp [*, errW_none, errW_some] <;> rfl), by repeat (first | (with_reducible first | exact HB.out | apply below_alloc | apply pw_below_drewN | apply below_drew1 | refine below_set ?_ GE185.out) | exact HB.out)⟩

end Go.Proofs.YtojmepkhbebllaaDoor.PShowProgs
