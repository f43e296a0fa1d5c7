-- written by wip/print2.py
import Derived.Test.YtemclhndmcjmmaaPDomEdgesx0
import Derived.Test.YtemclhndmcjmmaaPDomEdgesx1
import Derived.Test.YtemclhndmcjmmaaPDomEdgesx3
namespace Go.Proofs.Ytemclhndmcjmmaa.PDomEdges
open Go.RowKit Go.Proofs.YtemclhndmcjmmaaW.PrintWords Go.Proofs.YtemclhndmcjmmaaW.PrintLast Go.Proofs.YtemclhndmcjmmaaW.PrintMore
attribute [local go_sem] max2_int min2_int max_two min_two max_three min_three max_four min_four   -- for this text's walks alone
set_option linter.unusedVariables false
set_option linter.unusedSimpArgs false

/-! ### dom_grown: function 25 -/
open Iter
set_option linter.unusedVariables false
set_option linter.unusedSimpArgs false
/-- the tree lies in block g: which block is over which (ab), and places (pl) -/
structure TreeAt (w : World) (g : Nat) (ab pl : List Int) (A : Option Addr) (c : Nat) (A' : Option Addr) (c' : Nat) : Prop where
  blk : w.heap[g]? = some (.cells #[.slice A ab.length c, .slice A' pl.length c'] 42 (0, 0))
  hab : Kd.C (Kd.int .i64) w A ab.length ab
  hpl : Kd.C (Kd.int .i64) w A' pl.length pl
  cab : ab.length ≤ c
  cpl : pl.length ≤ c'
theorem TreeAt.below {w W : World} {g : Nat} {ab pl : List Int} {A : Option Addr} {c : Nat} {A' : Option Addr} {c' : Nat} (h : TreeAt w g ab pl A c A' c') (hb : Below w.heap.size w W) : TreeAt W g ab pl A c A' c' :=
  ⟨(hb.block g (Array.getElem?_eq_some_iff.1 h.blk).1).trans h.blk, Kd.C_below h.hab hb, Kd.C_below h.hpl hb, h.cab, h.cpl⟩
def over_l0 : Nat → List Int → Int → Int → Option Bool
  | 0, _, _, _ => none
  | k + 1, ab, a, b => if b = a then some true else if b > 0 then (if b < (ab.length : Int) then over_l0 k ab a (rd ab b) else none) else some false
def over_f (k : Nat) (ab pl : List Int) (a b : Int) : Option Bool :=
  if a < 0 ∨ b < 0 ∨ a ≥ (pl.length : Int) ∨ b ≥ (pl.length : Int) ∨ rd pl a < 0 ∨ rd pl b < 0 then some false else over_l0 k ab a b
set_option maxHeartbeats 8000000 in
set_option maxRecDepth 100000 in
theorem over_calls (k : Nat) (g : Nat) (ab pl : List Int) (A : Option Addr) (c : Nat) (A' : Option Addr) (c' : Nat) (a b : Int) (r : Bool) (w : World) (ht : TreeAt w g ab pl A c A' c') (h : over_f k ab pl a b = some r) :
    Calls Try.prog 31 #[.pointer (some ⟨g, 0, none⟩), .int .i64 a, .int .i64 b] w fun e w' => e = .returned (.bool r) ∧ Drawn0 w w' := by
  have q0 : w.cell? ⟨g, 0, none⟩ = some (.slice A ab.length c) := (blk_cell ht.blk 0).trans rfl
  have q1 : w.cell? ⟨g, 1, none⟩ = some (.slice A' pl.length c') := (blk_cell ht.blk 1).trans rfl
  have HT := Aside0.mk ht
  clear ht
  have H := h
  unfold over_f at H
  clear h
  go_enter Try.func31, Try.ntmps31
  by_cases c1 : a < 0
  · rw [if_pos (Or.inl c1)] at H
    obtain rfl := Option.some.inj H
    have c1b := decide_eq_true c1
    clear H c1
    go_wp2
    go_ret
    exact ⟨rfl, Drawn0.refl _⟩
  have c1b := decide_eq_false c1
  by_cases c2 : b < 0
  · rw [if_pos (Or.inr (Or.inl c2))] at H
    obtain rfl := Option.some.inj H
    have c2b := decide_eq_true c2
    clear H c1 c2
    go_wp2
    go_ret
    exact ⟨rfl, Drawn0.refl _⟩
  have c2b := decide_eq_false c2
  by_cases c3 : a ≥ (pl.length : Int)
  · rw [if_pos (Or.inr (Or.inr (Or.inl c3)))] at H
    obtain rfl := Option.some.inj H
    have c3b := decide_eq_true c3
    clear H c1 c2 c3
    go_wp2
    go_ret
    exact ⟨rfl, Drawn0.refl _⟩
  have c3b := decide_eq_false c3
  by_cases c4 : b ≥ (pl.length : Int)
  · rw [if_pos (Or.inr (Or.inr (Or.inr (Or.inl c4))))] at H
    obtain rfl := Option.some.inj H
    have c4b := decide_eq_true c4
    clear H c1 c2 c3 c4
    go_wp2
    go_ret
    exact ⟨rfl, Drawn0.refl _⟩
  have c4b := decide_eq_false c4
  obtain ⟨ada, ea, hxa⟩ := Kd.at_int HT.out.hpl a (by omega) (by omega)
  have pa : (0 ≤ a) = True := eq_true (by omega)
  have pa' : (a < (pl.length : Int)) = True := eq_true (by omega)
  cases ea
  by_cases c5 : rd pl a < 0
  · rw [if_pos (Or.inr (Or.inr (Or.inr (Or.inr (Or.inl c5)))))] at H
    obtain rfl := Option.some.inj H
    have c5b := decide_eq_true c5
    clear H c1 c2 c3 c4 c5
    go_wp2
    go_ret
    exact ⟨rfl, Drawn0.refl _⟩
  have c5b := decide_eq_false c5
  obtain ⟨adb, eb, hxb⟩ := Kd.at_int HT.out.hpl b (by omega) (by omega)
  have pb : (0 ≤ b) = True := eq_true (by omega)
  have pb' : (b < (pl.length : Int)) = True := eq_true (by omega)
  obtain rfl := Option.some.inj eb
  by_cases c6 : rd pl b < 0
  · rw [if_pos (Or.inr (Or.inr (Or.inr (Or.inr (Or.inr (c6))))))] at H
    obtain rfl := Option.some.inj H
    have c6b := decide_eq_true c6
    clear H c1 c2 c3 c4 c5 c6
    go_wp2
    go_ret
    exact ⟨rfl, Drawn0.refl _⟩
  have c6b := decide_eq_false c6
  rw [if_neg (by rintro (h | h | h | h | h | h) <;> contradiction)] at H
  have H' := Aside0.mk H
  clear H c1 c2 c3 c4 c5 c6
  go_wp2
  go_loopg [2] k (fun gk v2 Y => ∃ b' : Int, v2 = .int .i64 b' ∧ Aside0 (over_l0 gk ab a b' = some r) ∧ Aside0 (gk ≤ k) ∧ Drawn0 w Y)
  case atStart => exact ⟨b, rfl, H', ⟨Nat.le_refl _⟩, Drawn0.refl _⟩
  case round =>
    clear H' c1b c2b c3b c4b c5b c6b hxa hxb pa pa' pb pb' q1
    obtain ⟨b', rfl, HA, HK, ⟨nd, rfl⟩⟩ := hrel
    cases gk with
    | zero => exact absurd HA.out (by simp [over_l0])
    | succ k1 =>
      have H := HA.out
      clear HA
      simp only [over_l0] at H
      by_cases d1 : b' = a
      · subst d1
        rw [if_pos rfl] at H
        obtain rfl := Option.some.inj H
        clear H
        go_wp2
        go_ret
        exact ⟨rfl, ⟨⟨_, rfl⟩⟩⟩
      · rw [if_neg d1] at H
        have d1b : (b' != a) = true := bne_iff_ne.mpr d1
        have d1c : (b' == a) = false := beq_eq_false_iff_ne.mpr d1
        have d1d : (a == b') = false := beq_eq_false_iff_ne.mpr (fun e => d1 e.symm)
        by_cases d2 : b' > 0
        · rw [if_pos d2] at H
          by_cases d3 : b' < (ab.length : Int)
          · rw [if_pos d3] at H
            obtain ⟨ad, e, hx⟩ := Kd.at_int HT.out.hab b' (by omega) d3
            subst e
            have d2b := decide_eq_true d2
            have p1 : (0 ≤ b') = True := eq_true (by omega)
            have p2 := eq_true d3
            have H' := Aside0.mk H
            clear H d1 d2 d3
            go_wp2
            go_roundg k1
            case measure => have := HK.out; omega
            case rel => exact ⟨rd ab b', rfl, H', ⟨by have := HK.out; omega⟩, by repeat (first | exact Drawn0.refl _ | exact ⟨⟨_, rfl⟩⟩ | apply Drawn0.step)⟩
          · rw [if_neg d3] at H
            cases H
        · rw [if_neg d2] at H
          obtain rfl := Option.some.inj H
          have d2b := decide_eq_false d2
          clear H d1 d2
          go_wp2
          go_ret
          exact ⟨rfl, ⟨⟨_, rfl⟩⟩⟩
def common_l1 (ab pl : List Int) : Nat → Int → Int → Option Int
  | 0, _, _ => none
  | k + 1, up, b => if up = b then some up else if 0 ≤ up ∧ up < (pl.length : Int) ∧ 0 ≤ b ∧ b < (pl.length : Int) ∧ pl.length ≤ ab.length then (if rd pl up > rd pl b then common_l1 ab pl k (rd ab up) b else common_l1 ab pl k up (rd ab b)) else none
def common_l0 (k : Nat) (ab pl : List Int) : List Int → Int → Option Int
  | [], up => some up
  | b :: l, up => if 0 ≤ b ∧ b < (pl.length : Int) ∧ pl.length ≤ ab.length then (if rd pl b < 0 ∨ rd ab b < 0 then common_l0 k ab pl l up else (common_l1 ab pl k (if up < 0 then b else up) b).bind (fun u => common_l0 k ab pl l u)) else none
def common_f (k : Nat) (ab pl l : List Int) : Option Int := common_l0 k ab pl l (-1)
set_option maxHeartbeats 8000000 in
set_option maxRecDepth 100000 in
theorem common_calls (k : Nat) (g : Nat) (ab pl : List Int) (A : Option Addr) (c : Nat) (A' : Option Addr) (c' : Nat) (Al : Option Addr) (cl : Nat) (l : List Int) (r : Int) (w : World) (ht : TreeAt w g ab pl A c A' c') (hl : Kd.C (Kd.int .i64) w Al l.length l) (h : common_f k ab pl l = some r) :
    Calls Try.prog 37 #[.pointer (some ⟨g, 0, none⟩), .slice Al l.length cl] w fun e w' => e = .returned (.int .i64 r) ∧ Drawn0 w w' := by
  have q0 : w.cell? ⟨g, 0, none⟩ = some (.slice A ab.length c) := (blk_cell ht.blk 0).trans rfl
  have q1 : w.cell? ⟨g, 1, none⟩ = some (.slice A' pl.length c') := (blk_cell ht.blk 1).trans rfl
  have HT := Aside0.mk ht
  have HL := Aside0.mk hl
  have HN := Aside0.mk (show l.length ≤ 9223372036854775807 from hl.2.1)
  have H' := Aside0.mk h
  clear ht hl h
  go_enter Try.func37, Try.ntmps37
  go_wp2
  go_loopg [5, 10] l.length (fun gk v5 v10 Y => ∃ (i : Nat) (up : Int), v5 = .int .i64 up ∧ v10 = .int .i64 (i : Int) ∧ Aside0 (common_l0 k ab pl (l.drop i) up = some r) ∧ Aside0 (gk + i = l.length) ∧ Drawn0 w Y)
  case atStart => exact ⟨0, -1, rfl, rfl, ⟨by rw [List.drop_zero]; exact H'.out⟩, ⟨by omega⟩, Drawn0.refl _⟩
  case round =>
    clear H'
    obtain ⟨i, up, rfl, rfl, HA, HK, ⟨nd, rfl⟩⟩ := hrel
    by_cases hi : i < l.length
    · have hi' : (i : Int) < (l.length : Int) := by omega
      have d1b := decide_eq_true hi'
      have d1n := decide_eq_true hi
      have hin := eq_true hi
      have H := HA.out
      have hrd : rd l (i : Int) = l[i] := by unfold rd; simp [hi]
      rw [List.drop_eq_getElem_cons hi, ← hrd] at H
      obtain ⟨b, hb⟩ : ∃ b, rd l (i : Int) = b := ⟨_, rfl⟩
      obtain ⟨adl, el, hxl⟩ := Kd.at_int HL.out (i : Int) (by omega) hi'
      subst el
      rw [hb] at H hxl
      rw [Int.toNat_natCast] at hxl
      clear hb hrd
      rw [common_l0] at H
      have HH := Aside0.mk hi
      by_cases hbd : 0 ≤ b ∧ b < (pl.length : Int) ∧ pl.length ≤ ab.length
      · rw [if_pos hbd] at H
        obtain ⟨b0, b1, b2⟩ := hbd
        obtain ⟨ad', e', hxp⟩ := Kd.at_int HT.out.hpl b b0 b1
        obtain ⟨ad, e, hxa⟩ := Kd.at_int HT.out.hab b b0 (by omega)
        subst e e'
        have p1 := eq_true b0
        have p2 := eq_true b1
        have p3 : (b < (ab.length : Int)) = True := eq_true (by omega)
        have B0 := Aside0.mk b0
        have B1 := Aside0.mk b1
        have B2 := Aside0.mk b2
        clear b0 b1 b2 hi hi'
        have hnext : ∀ (up' z : Int), common_l0 k ab pl (l.drop (i + 1)) up' = some r → z = wrap64 ((i : Int) + 1) → ∀ nd', ∃ (j : Nat) (u : Int), Value.int .i64 up' = .int .i64 u ∧ Value.int .i64 z = .int .i64 (j : Int) ∧ Aside0 (common_l0 k ab pl (l.drop j) u = some r) ∧ Aside0 ((gk - 1) + j = l.length) ∧ Drawn0 w (w.drewN nd') := fun up' z hu hz nd' => by
          have h1 := HH.out
          have h2 := HN.out
          have h3 := HK.out
          refine ⟨i + 1, up', rfl, ?_, ⟨hu⟩, ⟨by omega⟩, ⟨⟨_, rfl⟩⟩⟩
          rw [hz, show wrap64 ((i : Int) + 1) = ((i + 1 : Nat) : Int) from by unfold wrap64; omega]
        have HM : Aside0 (gk - 1 < gk) := ⟨by have h1 := HH.out; have h3 := HK.out; omega⟩
        have HX := Aside0.mk hnext
        clear hnext
        by_cases c1 : rd pl b < 0
        · rw [if_pos (.inl c1)] at H
          have c1b := decide_eq_true c1
          have H' := Aside0.mk H
          clear H c1
          go_wp2
          go_roundg (gk - 1)
          case measure => exact HM.out
          case rel => exact HX.out _ _ H'.out (by first | rfl | simp) _
        · have c1b := decide_eq_false c1
          by_cases c2 : rd ab b < 0
          · rw [if_pos (.inr c2)] at H
            have c2b := decide_eq_true c2
            have H' := Aside0.mk H
            clear H c1 c2
            go_wp2
            go_roundg (gk - 1)
            case measure => exact HM.out
            case rel => exact HX.out _ _ H'.out (by first | rfl | simp) _
          · rw [if_neg (by rintro (h | h) <;> contradiction)] at H
            have c2b := decide_eq_false c2
            obtain ⟨u0, hu0⟩ : ∃ u0, (if up < 0 then b else up) = u0 := ⟨_, rfl⟩
            rw [hu0] at H
            obtain ⟨u, hu, H2⟩ := Option.bind_eq_some_iff.1 H
            have H' := Aside0.mk H2
            have HU := Aside0.mk hu
            clear H H2 hu c1 c2
            have inner : ∀ (up0 : Int) (nd0 : Nat), True := fun _ _ => trivial
            by_cases c3 : up < 0
            · have c3b := decide_eq_true c3
              rw [if_pos c3] at hu0
              subst hu0
              clear c3
              go_wp2
              clear hxp hxa hxl p1 p2 p3 c1b c2b c3b d1b d1n hin
              go_loopg [5, 7] k (fun ik v5 v7 Y => ∃ x y : Int, v5 = .int .i64 x ∧ v7 = .int .i64 y ∧ Aside0 (common_l1 ab pl ik x y = some u) ∧ Aside0 (ik ≤ k) ∧ Drawn0 w Y)
              case atStart => exact ⟨_, b, rfl, rfl, HU, ⟨Nat.le_refl _⟩, ⟨⟨_, rfl⟩⟩⟩
              case round =>
                clear HU
                obtain ⟨x, y, rfl, rfl, HI, HKI, ⟨nd2, rfl⟩⟩ := hrel
                cases gk with
                | zero => exact absurd HI.out (by simp [common_l1])
                | succ ik1 =>
                  have HJ := HI.out
                  clear HI
                  simp only [common_l1] at HJ
                  by_cases e1 : x = y
                  · subst e1
                    rw [if_pos rfl] at HJ
                    obtain rfl := Option.some.inj HJ
                    clear HJ
                    go_wp2
                    go_roundg (gk - 1)
                    case measure => exact HM.out
                    case rel => exact HX.out _ _ H'.out (by first | rfl | simp) _
                  · rw [if_neg e1] at HJ
                    have e1b : (x != y) = true := bne_iff_ne.mpr e1
                    have e1c : (x == y) = false := beq_eq_false_iff_ne.mpr e1
                    by_cases hbd : 0 ≤ x ∧ x < (pl.length : Int) ∧ 0 ≤ y ∧ y < (pl.length : Int) ∧ pl.length ≤ ab.length
                    · rw [if_pos hbd] at HJ
                      obtain ⟨x0, x1, y0, y1, -⟩ := hbd
                      have B2' := B2.out
                      obtain ⟨a1, f1, h1⟩ := Kd.at_int HT.out.hpl x x0 x1
                      obtain ⟨a2, f2, h2⟩ := Kd.at_int HT.out.hpl y y0 y1
                      obtain ⟨a3, f3, h3⟩ := Kd.at_int HT.out.hab x x0 (by omega)
                      obtain ⟨a4, f4, h4⟩ := Kd.at_int HT.out.hab y y0 (by omega)
                      obtain rfl := Option.some.inj f1
                      obtain rfl := Option.some.inj f2
                      obtain rfl := Option.some.inj f3
                      obtain rfl := Option.some.inj f4
                      have r1 : (x < (ab.length : Int)) = True := eq_true (by omega)
                      have r2 : (y < (ab.length : Int)) = True := eq_true (by omega)
                      replace x0 := eq_true x0
                      replace x1 := eq_true x1
                      replace y0 := eq_true y0
                      replace y1 := eq_true y1
                      clear B2' e1
                      by_cases e2 : rd pl x > rd pl y
                      · rw [if_pos e2] at HJ
                        have e2b := decide_eq_true e2
                        have HJ' := Aside0.mk HJ
                        clear HJ e2
                        go_wp2
                        go_quiet (fail)
                        go_wp2
                        go_roundg ik1
                        case measure => have := HKI.out; omega
                        case rel => exact ⟨_, _, rfl, rfl, HJ', ⟨by have := HKI.out; omega⟩, by first | exact ⟨⟨_, rfl⟩⟩ | exact Drawn0.step ⟨⟨_, rfl⟩⟩ _ | (refine ⟨⟨_, ?_⟩⟩; simp only [World.drewN_drewN, World.drew_drewN]; rfl)⟩
                      · rw [if_neg e2] at HJ
                        have e2b := decide_eq_false e2
                        have HJ' := Aside0.mk HJ
                        clear HJ e2
                        go_wp2
                        go_quiet (fail)
                        go_wp2
                        go_roundg ik1
                        case measure => have := HKI.out; omega
                        case rel => exact ⟨_, _, rfl, rfl, HJ', ⟨by have := HKI.out; omega⟩, by first | exact ⟨⟨_, rfl⟩⟩ | exact Drawn0.step ⟨⟨_, rfl⟩⟩ _ | (refine ⟨⟨_, ?_⟩⟩; simp only [World.drewN_drewN, World.drew_drewN]; rfl)⟩
                    · rw [if_neg hbd] at HJ; cases HJ
            · have c3b := decide_eq_false c3
              rw [if_neg c3] at hu0
              subst hu0
              clear c3
              go_wp2
              clear hxp hxa hxl p1 p2 p3 c1b c2b c3b d1b d1n hin
              go_loopg [5, 7] k (fun ik v5 v7 Y => ∃ x y : Int, v5 = .int .i64 x ∧ v7 = .int .i64 y ∧ Aside0 (common_l1 ab pl ik x y = some u) ∧ Aside0 (ik ≤ k) ∧ Drawn0 w Y)
              case atStart => exact ⟨_, b, rfl, rfl, HU, ⟨Nat.le_refl _⟩, ⟨⟨_, rfl⟩⟩⟩
              case round =>
                clear HU
                obtain ⟨x, y, rfl, rfl, HI, HKI, ⟨nd2, rfl⟩⟩ := hrel
                cases gk with
                | zero => exact absurd HI.out (by simp [common_l1])
                | succ ik1 =>
                  have HJ := HI.out
                  clear HI
                  simp only [common_l1] at HJ
                  by_cases e1 : x = y
                  · subst e1
                    rw [if_pos rfl] at HJ
                    obtain rfl := Option.some.inj HJ
                    clear HJ
                    go_wp2
                    go_roundg (gk - 1)
                    case measure => exact HM.out
                    case rel => exact HX.out _ _ H'.out (by first | rfl | simp) _
                  · rw [if_neg e1] at HJ
                    have e1b : (x != y) = true := bne_iff_ne.mpr e1
                    have e1c : (x == y) = false := beq_eq_false_iff_ne.mpr e1
                    by_cases hbd : 0 ≤ x ∧ x < (pl.length : Int) ∧ 0 ≤ y ∧ y < (pl.length : Int) ∧ pl.length ≤ ab.length
                    · rw [if_pos hbd] at HJ
                      obtain ⟨x0, x1, y0, y1, -⟩ := hbd
                      have B2' := B2.out
                      obtain ⟨a1, f1, h1⟩ := Kd.at_int HT.out.hpl x x0 x1
                      obtain ⟨a2, f2, h2⟩ := Kd.at_int HT.out.hpl y y0 y1
                      obtain ⟨a3, f3, h3⟩ := Kd.at_int HT.out.hab x x0 (by omega)
                      obtain ⟨a4, f4, h4⟩ := Kd.at_int HT.out.hab y y0 (by omega)
                      obtain rfl := Option.some.inj f1
                      obtain rfl := Option.some.inj f2
                      obtain rfl := Option.some.inj f3
                      obtain rfl := Option.some.inj f4
                      have r1 : (x < (ab.length : Int)) = True := eq_true (by omega)
                      have r2 : (y < (ab.length : Int)) = True := eq_true (by omega)
                      replace x0 := eq_true x0
                      replace x1 := eq_true x1
                      replace y0 := eq_true y0
                      replace y1 := eq_true y1
                      clear B2' e1
                      by_cases e2 : rd pl x > rd pl y
                      · rw [if_pos e2] at HJ
                        have e2b := decide_eq_true e2
                        have HJ' := Aside0.mk HJ
                        clear HJ e2
                        go_wp2
                        go_quiet (fail)
                        go_wp2
                        go_roundg ik1
                        case measure => have := HKI.out; omega
                        case rel => exact ⟨_, _, rfl, rfl, HJ', ⟨by have := HKI.out; omega⟩, by first | exact ⟨⟨_, rfl⟩⟩ | exact Drawn0.step ⟨⟨_, rfl⟩⟩ _ | (refine ⟨⟨_, ?_⟩⟩; simp only [World.drewN_drewN, World.drew_drewN]; rfl)⟩
                      · rw [if_neg e2] at HJ
                        have e2b := decide_eq_false e2
                        have HJ' := Aside0.mk HJ
                        clear HJ e2
                        go_wp2
                        go_quiet (fail)
                        go_wp2
                        go_roundg ik1
                        case measure => have := HKI.out; omega
                        case rel => exact ⟨_, _, rfl, rfl, HJ', ⟨by have := HKI.out; omega⟩, by first | exact ⟨⟨_, rfl⟩⟩ | exact Drawn0.step ⟨⟨_, rfl⟩⟩ _ | (refine ⟨⟨_, ?_⟩⟩; simp only [World.drewN_drewN, World.drew_drewN]; rfl)⟩
                    · rw [if_neg hbd] at HJ; cases HJ
      · rw [if_neg hbd] at H; cases H
    · have d1b := decide_eq_false hi
      have H := HA.out
      rw [List.drop_of_length_le (by omega), common_l0] at H
      obtain rfl := Option.some.inj H
      clear H hi
      go_wp2
      go_ret
      exact ⟨rfl, ⟨⟨_, rfl⟩⟩⟩
/-- how things lie in grown: f in its box, the tree in block g, its rows in blocks ga and gp -/
structure GW (w : World) (a0 : Int) (A : Option Addr) (n c : Nat) (W : World) (g ga gp : Nat) (ab pl : List Int) : Prop where
  bel : Below w.heap.size w W
  box : W.heap[w.heap.size]? = some (.cells #[.int .i64 a0, .slice A n c] 24 (0, 0))
  blk : W.heap[g]? = some (.cells #[.slice (some ⟨ga, 0, none⟩) n n, .slice (some ⟨gp, 0, none⟩) n n] 42 (0, 0))
  rab : W.ownsRow (w.heap.size + 1) 3 1 (.slice (some ⟨ga, 0, none⟩) n n) n (nums .i64 ab)
  rpl : W.ownsRow (w.heap.size + 1) 3 1 (.slice (some ⟨gp, 0, none⟩) n n) n (nums .i64 pl)
  ap : ga ≠ gp
  gga : g ≠ ga
  ggp : g ≠ gp
  gb : w.heap.size + 1 ≤ g
section
variable {w : World} {a0 : Int} {A : Option Addr} {n c : Nat} {W : World} {g ga gp : Nat} {ab pl : List Int}
theorem GW.la (h : GW w a0 A n c W g ga gp ab pl) : ab.length = n := by have := h.rab.1; simpa [nums] using this
theorem GW.lp (h : GW w a0 A n c W g ga gp ab pl) : pl.length = n := by have := h.rpl.1; simpa [nums] using this
theorem GW.gal (h : GW w a0 A n c W g ga gp ab pl) : w.heap.size + 1 ≤ ga ∧ ga < W.heap.size := ⟨own_base h.rab ga rfl, own_lt h.rab ga rfl⟩
theorem GW.gpl (h : GW w a0 A n c W g ga gp ab pl) : w.heap.size + 1 ≤ gp ∧ gp < W.heap.size := ⟨own_base h.rpl gp rfl, own_lt h.rpl gp rfl⟩
theorem GW.gl (h : GW w a0 A n c W g ga gp ab pl) : g < W.heap.size := (Array.getElem?_eq_some_iff.1 h.blk).1
theorem GW.bl (h : GW w a0 A n c W g ga gp ab pl) : w.heap.size < W.heap.size := (Array.getElem?_eq_some_iff.1 h.box).1
theorem GW.below {W' : World} (h : GW w a0 A n c W g ga gp ab pl) (hb : Below W.heap.size W W') : GW w a0 A n c W' g ga gp ab pl :=
  ⟨below_step h.bel hb, (hb.block _ h.bl).trans h.box, (hb.block _ h.gl).trans h.blk, pw_own_below h.rab hb, pw_own_below h.rpl hb, h.ap, h.gga, h.ggp, h.gb⟩
theorem GW.setA (h : GW w a0 A n c W g ga gp ab pl) (i x : Int) : GW w a0 A n c (W.setCell ⟨ga, i.toNat, none⟩ (.int .i64 x)) g ga gp (ab.set i.toNat x) pl := by
  have hne : ∀ k, k ≠ ga → (W.setCell ⟨ga, i.toNat, none⟩ (.int .i64 x)).heap[k]? = W.heap[k]? := fun k hk => Below.heap_setCell W ⟨ga, i.toNat, none⟩ (.int .i64 x) k hk
  have hl := h.gal
  exact ⟨h.bel.setCell (p := ⟨ga, i.toNat, none⟩) (by show w.heap.size ≤ ga; omega) _, (hne _ (by omega)).trans h.box, (hne _ h.gga).trans h.blk, (own_store h.rab i x).1, own_move h.rpl (fun k hk => by cases hk; exact hne _ (fun e => h.ap e.symm)), h.ap, h.gga, h.ggp, h.gb⟩
theorem GW.setP (h : GW w a0 A n c W g ga gp ab pl) (i x : Int) : GW w a0 A n c (W.setCell ⟨gp, i.toNat, none⟩ (.int .i64 x)) g ga gp ab (pl.set i.toNat x) := by
  have hne : ∀ k, k ≠ gp → (W.setCell ⟨gp, i.toNat, none⟩ (.int .i64 x)).heap[k]? = W.heap[k]? := fun k hk => Below.heap_setCell W ⟨gp, i.toNat, none⟩ (.int .i64 x) k hk
  have hl := h.gpl
  exact ⟨h.bel.setCell (p := ⟨gp, i.toNat, none⟩) (by show w.heap.size ≤ gp; omega) _, (hne _ (by omega)).trans h.box, (hne _ h.ggp).trans h.blk, own_move h.rab (fun k hk => by cases hk; exact hne _ h.ap), (own_store h.rpl i x).1, h.ap, h.gga, h.ggp, h.gb⟩
theorem GW.cg (h : GW w a0 A n c W g ga gp ab pl) : W.cell? ⟨g, 0, none⟩ = some (.slice (some ⟨ga, 0, none⟩) n n) ∧ W.cell? ⟨g, 1, none⟩ = some (.slice (some ⟨gp, 0, none⟩) n n) := ⟨(blk_cell h.blk 0).trans rfl, (blk_cell h.blk 1).trans rfl⟩
theorem GW.cb (h : GW w a0 A n c W g ga gp ab pl) : W.cell? ⟨w.heap.size, 0, none⟩ = some (.int .i64 a0) ∧ W.cell? ⟨w.heap.size, 1, none⟩ = some (.slice A n c) := ⟨(blk_cell h.box 0).trans rfl, (blk_cell h.box 1).trans rfl⟩
theorem GW.ca (h : GW w a0 A n c W g ga gp ab pl) (i : Int) (h0 : 0 ≤ i) (h1 : i < n) : W.cell? ⟨ga, i.toNat, none⟩ = some (.int .i64 (rd ab i)) ∧ W.frozen? ⟨ga, i.toNat, none⟩ = false := own_at h.rab i h0 h1
theorem GW.cp (h : GW w a0 A n c W g ga gp ab pl) (i : Int) (h0 : 0 ≤ i) (h1 : i < n) : W.cell? ⟨gp, i.toNat, none⟩ = some (.int .i64 (rd pl i)) ∧ W.frozen? ⟨gp, i.toNat, none⟩ = false := own_at h.rpl i h0 h1
theorem GW.tree (h : GW w a0 A n c W g ga gp ab pl) : TreeAt W g ab pl (some ⟨ga, 0, none⟩) n (some ⟨gp, 0, none⟩) n := by
  obtain ⟨A1, c1, e1, hc1, hC1⟩ := Kd.R_reads (Kd.R_of_own (enc := Value.int .i64) (h1 := fun _ => rfl) (xs := ab) (ok := fun _ => True) (by rw [h.la]; exact h.rab) (fun _ _ => trivial))
  obtain ⟨A2, c2, e2, hc2, hC2⟩ := Kd.R_reads (Kd.R_of_own (enc := Value.int .i64) (h1 := fun _ => rfl) (xs := pl) (ok := fun _ => True) (by rw [h.lp]; exact h.rpl) (fun _ _ => trivial))
  obtain ⟨rfl, -, rfl⟩ := Value.slice.inj e1
  obtain ⟨rfl, -, rfl⟩ := Value.slice.inj e2
  have hb := h.blk
  exact ⟨by rw [h.la, h.lp]; exact hb, hC1, hC2, by rw [h.la]; exact Nat.le_refl _, by rw [h.lp]; exact Nat.le_refl _⟩
end
theorem GW.new (w : World) (a0 : Int) (A : Option Addr) (n c : Nat) (hn : n ≤ 1099511627776) (x : Bool) :
    GW w a0 A n c ((((w.alloc (.cells #[.int .i64 a0, .slice A n c] 24)).alloc (.cells (madeCells #[.int .i64 0] n) 3)).alloc (.cells (madeCells #[.int .i64 0] n) 3)).alloc (.cells #[.slice (some ⟨if x then w.heap.size + 1 else w.heap.size + 1 + 1, 0, none⟩) n n, .slice (some ⟨if x then w.heap.size + 1 + 1 else w.heap.size + 1, 0, none⟩) n n] 42))
      (w.heap.size + 1 + 1 + 1) (if x then w.heap.size + 1 else w.heap.size + 1 + 1) (if x then w.heap.size + 1 + 1 else w.heap.size + 1) (List.replicate n 0) (List.replicate n 0) := by
  have r1 := own_alloc (own_alloc (own_made (w.alloc (.cells #[.int .i64 a0, .slice A n c] 24)) (w.heap.size + 1) 3 .i64 n (by simp) (by omega)) (.cells (madeCells #[.int .i64 0] n) 3)) (.cells #[.slice (some ⟨if x then w.heap.size + 1 else w.heap.size + 1 + 1, 0, none⟩) n n, .slice (some ⟨if x then w.heap.size + 1 + 1 else w.heap.size + 1, 0, none⟩) n n] 42)
  have r2 := own_alloc (own_made ((w.alloc (.cells #[.int .i64 a0, .slice A n c] 24)).alloc (.cells (madeCells #[.int .i64 0] n) 3)) (w.heap.size + 1) 3 .i64 n (by simp) (by omega)) (.cells #[.slice (some ⟨if x then w.heap.size + 1 else w.heap.size + 1 + 1, 0, none⟩) n n, .slice (some ⟨if x then w.heap.size + 1 + 1 else w.heap.size + 1, 0, none⟩) n n] 42)
  simp only [World.size_alloc] at r1 r2
  have hb := heap_alloc_new (((w.alloc (.cells #[.int .i64 a0, .slice A n c] 24)).alloc (.cells (madeCells #[.int .i64 0] n) 3)).alloc (.cells (madeCells #[.int .i64 0] n) 3)) (.cells #[.slice (some ⟨if x then w.heap.size + 1 else w.heap.size + 1 + 1, 0, none⟩) n n, .slice (some ⟨if x then w.heap.size + 1 + 1 else w.heap.size + 1, 0, none⟩) n n] 42)
  simp only [World.size_alloc] at hb
  refine ⟨below_alloc (below_alloc (below_alloc (below_alloc (Below.refl _ _) _) _) _) _, ?_, hb, ?_, ?_, ?_, ?_, ?_, by omega⟩
  · rw [heap_alloc_old _ _ (by simp; omega), heap_alloc_old _ _ (by simp; omega), heap_alloc_old _ _ (by simp)]; exact heap_alloc_new w _
  · cases x
    · exact r2
    · exact r1
  · cases x
    · exact r1
    · exact r2
  all_goals (cases x <;> simp <;> omega)
theorem GW.drew {w : World} {a0 : Int} {A : Option Addr} {n c : Nat} {W : World} {g ga gp : Nat} {ab pl : List Int} (h : GW w a0 A n c W g ga gp ab pl) : GW w a0 A n c W.drew g ga gp ab pl := h.below (below_drew (Below.refl _ _))
theorem repl_set (i n : Nat) (h : i < n) : (List.replicate i (-1 : Int) ++ List.replicate (n - i) 0).set i (-1) = List.replicate (i + 1) (-1) ++ List.replicate (n - (i + 1)) 0 := by
  rw [List.set_append_right _ _ (by simp), List.length_replicate, Nat.sub_self, show n - i = (n - (i + 1)) + 1 by omega, List.replicate_succ, List.set_cons_zero, List.replicate_succ', List.append_assoc, List.singleton_append]
/-- the places of blocks, from i on -/
def placed : List Int → Nat → List Int → List Int
  | [], _, pl => pl
  | b :: l, i, pl => placed l (i + 1) (pl.set b.toNat (i : Int))
/-- a round of all blocks -/
def gpass (k : Nat) (pl : List Int) (ahead : List (List Int)) : List Int → List Int → Bool → Option (List Int × Bool)
  | [], ab, ag => some (ab, ag)
  | b :: l, ab, ag => (common_f k ab pl (rd_L1 ahead b)).bind (fun u => if u = rd ab b then gpass k pl ahead l ab ag else gpass k pl ahead l (ab.set b.toNat u) true)
/-- rounds, until nothing changes -/
def gloop (k : Nat) (pl : List Int) (ahead : List (List Int)) (ords : List Int) : Nat → List Int → Option (List Int)
  | 0, _ => none
  | n + 1, ab => (gpass k pl ahead ords ab false).bind (fun r => if r.2 = true then gloop k pl ahead ords n r.1 else some r.1)
def dom_grown.f (k : Nat) (a0_0 : Int) (l0_1 : List (S54)) : Option (List Int × List Int) :=
  (leftOf l0_1).bind (fun XS => if XS = [] then some (List.replicate l0_1.length (-1), placed (ints XS.reverse) 0 (List.replicate l0_1.length (-1))) else (cfg_Ahead.f k a0_0 l0_1).bind (fun ah => if ah.length = l0_1.length then (gloop k (placed (ints XS.reverse) 0 (List.replicate l0_1.length (-1))) ah (ints XS.reverse).tail k ((List.replicate l0_1.length (-1)).set 0 0)).map (fun ab => (ab.set 0 (-1), placed (ints XS.reverse) 0 (List.replicate l0_1.length (-1)))) else none))
/-- what grown leaves -/
def GPost (w : World) (a0 : Int) (A : Option Addr) (n c : Nat) (r1 r2 : List Int) (e : Ending) (w' : World) : Prop := ∃ g ga gp, e = .returned (.pointer (some ⟨g, 0, none⟩)) ∧ GW w a0 A n c w' g ga gp r1 r2
set_option maxHeartbeats 8000000 in
set_option maxRecDepth 100000 in
theorem dom_grown.calls (k : Nat) (a0_0 : Int) (A0_1 : Option Addr) (c0_1 : Nat) (l0_1 : List (S54)) (r1 r2 : List Int) (w : World) (hr0_1 : Kd.C k54 w A0_1 l0_1.length l0_1) (hc0_1 : l0_1.length ≤ c0_1) (h : dom_grown.f k a0_0 l0_1 = some (r1, r2)) :
    Calls Try.prog 25 #[.agg #[.int .i64 a0_0, .slice A0_1 l0_1.length c0_1]] w (GPost w a0_0 A0_1 l0_1.length c0_1 r1 r2) := by
  unfold dom_grown.f at h
  obtain ⟨XS, hXS, h⟩ := Option.bind_eq_some_iff.1 h
  have hN := leftOf_n hXS
  have hmk := print_make_of (P := Try.prog) 26 3 (.int .i64 0) 8 Try.underlying26 info3 rfl (by decide) l0_1.length (by omega)
  have HR := Aside0.mk hr0_1
  have HC := Aside0.mk hc0_1
  have HX := Aside0.mk hXS
  have HN := Aside0.mk hN
  have HL := Aside0.mk (leftOf_lt hXS)
  have H' := Aside0.mk h
  clear hr0_1 hc0_1 h hXS hN
  go_enter Try.func25, Try.ntmps25
  go_upto_region 1 with (fail)
  go_cut [3] (fun v3 wc => ∃ g ga gp, v3 = .pointer (some ⟨g, 0, none⟩) ∧ Aside0 (GW w a0_0 A0_1 l0_1.length c0_1 wc g ga gp (List.replicate l0_1.length 0) (List.replicate l0_1.length 0)))
  case first =>
    have K1 := Aside0.mk (GW.new w a0_0 A0_1 l0_1.length c0_1 HN.out true)
    have K2 := Aside0.mk (GW.new w a0_0 A0_1 l0_1.length c0_1 HN.out false)
    simp only [if_true, Bool.false_eq_true, if_false] at K1 K2
    go_region
    all_goals
      go_wp2_with (fail)
      go_meet
      case rel =>
        first
        | exact ⟨_, _, _, rfl, K1⟩
        | exact ⟨_, _, _, rfl, K2⟩
        | exact ⟨_, _, _, rfl, ⟨K1.out.drew⟩⟩
        | exact ⟨_, _, _, rfl, ⟨K2.out.drew⟩⟩
  case rest =>
    obtain ⟨g, ga, gp, rfl, HG⟩ := hcut
    obtain ⟨q0, q1⟩ := HG.out.cg
    go_wp2
    clear q0 q1
    go_loopg [4, 28] l0_1.length (fun gk v4 v28 Y => ∃ (i : Nat), v28 = .int .i64 (i : Int) ∧ Aside0 (gk + i = l0_1.length) ∧ Aside0 (GW w a0_0 A0_1 l0_1.length c0_1 Y g ga gp (List.replicate i (-1) ++ List.replicate (l0_1.length - i) 0) (List.replicate i (-1) ++ List.replicate (l0_1.length - i) 0)))
    case atStart => exact ⟨0, rfl, ⟨by omega⟩, ⟨by simpa using HG.out⟩⟩
    case round =>
      clear HG
      obtain ⟨i, rfl, HK, HG⟩ := hrel
      obtain ⟨q0, q1⟩ := HG.out.cg
      by_cases hi : i < l0_1.length
      · have d1b := decide_eq_true (show (i : Int) < (l0_1.length : Int) by omega)
        have d1n := decide_eq_true hi
        have hin := eq_true hi
        have hr := Aside0.mk (repl_set i l0_1.length hi)
        obtain ⟨qa, fa⟩ := HG.out.ca (i : Int) (by omega) (by omega)
        obtain ⟨qp, fp⟩ := HG.out.cp (i : Int) (by omega) (by omega)
        have S1 := Aside0.mk ((HG.out.setA (i : Int) (-1)).setP (i : Int) (-1))
        have S2 := Aside0.mk ((HG.out.setP (i : Int) (-1)).setA (i : Int) (-1))
        have S3 := Aside0.mk ((HG.out.drew.setA (i : Int) (-1)).setP (i : Int) (-1))
        have S4 := Aside0.mk ((HG.out.drew.setP (i : Int) (-1)).setA (i : Int) (-1))
        simp only [Int.toNat_natCast] at qa qp fa fp S1 S2 S3 S4
        have HI := Aside0.mk hi
        clear hi
        have n1 := eq_false HG.out.ap
        have n2 := eq_false (fun e => HG.out.ap e.symm : gp ≠ ga)
        have n3 := eq_false HG.out.gga
        have n4 := eq_false (fun e => HG.out.gga e.symm : ga ≠ g)
        have n5 := eq_false HG.out.ggp
        have n6 := eq_false (fun e => HG.out.ggp e.symm : gp ≠ g)
        go_wp2
        go_region
        all_goals
          go_wp2
          go_roundg (gk - 1)
          case measure => have h1 := HI.out; have h2 := HK.out; omega
          case rel =>
            have h1 := HI.out
            have h2 := HK.out
            have h3 := HN.out
            refine ⟨i + 1, ?_, ⟨by omega⟩, ⟨?_⟩⟩
            · rw [show wrap64 ((i : Int) + 1) = ((i + 1 : Nat) : Int) from by unfold wrap64; omega]
            · rw [← hr.out]
              first
              | exact S1.out.drew
              | exact S2.out.drew
              | exact S1.out
              | exact S2.out
      · have d1b := decide_eq_false hi
        have HG2 : Aside0 (GW w a0_0 A0_1 l0_1.length c0_1 wr g ga gp (List.replicate l0_1.length (-1)) (List.replicate l0_1.length (-1))) := ⟨by
          have h2 := HK.out
          obtain rfl : i = l0_1.length := by omega
          have := HG.out
          rw [Nat.sub_self, List.replicate_zero, List.append_nil] at this
          exact this⟩
        obtain ⟨b0, b1⟩ := HG.out.cb
        clear HG HK hi
        have hord : cfg_Order.f a0_0 l0_1 = some (ints XS.reverse) := by
          unfold cfg_Order.f cfg_order.f
          rw [HX.out, Option.map_some, Option.bind_some]
          congr 1
          unfold ints; rw [List.map_reverse]
        have HO := Aside0.mk hord
        clear hord
        go_wp2_with (first
          | (go_at_call 34; refine Aside0.out ?_))
        refine ⟨?_⟩
        refine (cfg_Order.calls a0_0 A0_1 c0_1 l0_1 (ints XS.reverse) _ (Kd.C_below HR.out HG2.out.bel) HC.out HO.out).mono ?_
        rintro e W3 ⟨v5, rfl, hR5, hB3⟩
        obtain ⟨A5, c5, rfl⟩ := Kd.R_slice hR5
        have HG3 := Aside0.mk (HG2.out.below hB3)
        have hgal := Aside0.mk HG2.out.gal
        have hgpl := Aside0.mk HG2.out.gpl
        have hordX : ∀ x ∈ ints XS.reverse, 0 ≤ x ∧ x < (l0_1.length : Int) := fun x hx => by
          unfold ints at hx
          rw [List.mem_map] at hx
          obtain ⟨y, hy, rfl⟩ := hx
          have := HL.out y (List.mem_reverse.1 hy)
          exact ⟨by omega, by omega⟩
        have hlenX : (ints XS.reverse).length = XS.length := by unfold ints; rw [List.length_map, List.length_reverse]
        obtain ⟨ord, hordE⟩ : ∃ ord, ints XS.reverse = ord := ⟨_, rfl⟩
        rw [hordE] at hR5 hordX hlenX H' ⊢
        have HOX := Aside0.mk hordX
        have HLX := Aside0.mk hlenX
        have HLX2 := Aside0.mk (leftOf_len HX.out)
        have HR5 := Aside0.mk (Kd.R_bound hR5)
        have HB3 := Aside0.mk hB3
        clear HO hordE hordX hlenX hR5 hB3 b0 b1 HG2
        go_simp
        go_wp2
        go_loopg [6, 7, 48] ord.length (fun gk v6 v7 v48 Y => ∃ (j : Nat) (pl : List Int), v48 = .int .i64 (j : Int) ∧ Aside0 (gk + j = ord.length) ∧ Aside0 (placed (ord.drop j) j pl = placed ord 0 (List.replicate l0_1.length (-1))) ∧ Aside0 (GW w a0_0 A0_1 l0_1.length c0_1 Y g ga gp (List.replicate l0_1.length (-1)) pl) ∧ Aside0 (Hold (fun k => k < W3.heap.size ∧ k ≠ gp) W3 Y))
        case atStart => exact ⟨0, _, rfl, ⟨by omega⟩, ⟨by rw [List.drop_zero]⟩, HG3, ⟨Hold.refl _ _⟩⟩
        case round =>
          clear HG3
          rename_i wrX
          obtain ⟨j, pl, rfl, HK, HP, HG, HH⟩ := hrel
          obtain ⟨q0, q1⟩ := HG.out.cg
          have hRy := HH.out.row (T := fun k => k < W3.heap.size ∧ k ≠ gp) HR5.out (fun k hk => ⟨hk.2.2.1, by have := hk.2.1; have := hgpl.out.2; omega⟩)
          by_cases hj : j < ord.length
          · have d1b := decide_eq_true (show (j : Int) < (ord.length : Int) by omega)
            have d1n := decide_eq_true hj
            have hin := eq_true hj
            obtain ⟨-, -, hCy⟩ := Kd.R_reads' hRy
            obtain ⟨ad, e, hx⟩ := Kd.at_int hCy (j : Int) (by omega) (by omega)
            subst e
            rw [Int.toNat_natCast] at hx
            have hrd : rd ord (j : Int) = ord[j] := by unfold rd; simp [hj]
            have hmem : rd ord (j : Int) ∈ ord := by rw [hrd]; exact List.getElem_mem hj
            have hP := HP.out
            rw [List.drop_eq_getElem_cons hj, ← hrd, placed] at hP
            obtain ⟨b, hb⟩ : ∃ b, rd ord (j : Int) = b := ⟨_, rfl⟩
            rw [hb] at hx hmem hP
            obtain ⟨b0, b1⟩ := HOX.out b hmem
            obtain ⟨qp, fp⟩ := HG.out.cp b b0 b1
            have S1 := Aside0.mk (HG.out.setP b (j : Int))
            have S2 := Aside0.mk (HH.out.setCell ⟨gp, b.toNat, none⟩ (.int .i64 (j : Int)) (fun hk => hk.2 rfl))
            have p0 := eq_true b0
            have p1 := eq_true b1
            have HP' := Aside0.mk hP
            have HJ := Aside0.mk hj
            clear hb hrd hmem hP hj hRy hCy b0 b1
            go_wp2
            go_roundg (gk - 1)
            case measure => have h1 := HJ.out; have h2 := HK.out; omega
            case rel =>
              have h1 := HJ.out
              have h2 := HK.out
              have h3 := HLX.out
              have h4 := HLX2.out
              refine ⟨j + 1, _, ?_, ⟨by omega⟩, HP', S1, S2⟩
              rw [show wrap64 ((j : Int) + 1) = ((j + 1 : Nat) : Int) from by unfold wrap64; omega]
          · have d1b := decide_eq_false hj
            have hP := HP.out
            rw [List.drop_of_length_le (by omega), placed] at hP
            subst hP
            obtain ⟨P, hPE⟩ : ∃ P, placed ord 0 (List.replicate l0_1.length (-1)) = P := ⟨_, rfl⟩
            rw [hPE] at HG H'
            have HR6 := Aside0.mk hRy
            have hsz := Aside0.mk HH.out.size
            clear hPE hj HK HH HP hRy
            by_cases hz : XS = []
            · have hz0 : ord.length = 0 := by rw [HLX.out, hz]; rfl
              have d2 : ((ord.length : Int) == 0) = true := by rw [hz0]; rfl
              have d2' : (ord.length == 0) = true := by rw [hz0]; rfl
              have h := H'.out
              rw [if_pos hz] at h
              obtain ⟨rfl, rfl⟩ := Prod.mk.inj (Option.some.inj h)
              clear h hz hz0
              have HG' := Aside0.mk HG.out
              go_wp2
              go_ret
              exact ⟨g, ga, gp, rfl, HG'.out⟩
            · have hpos : 0 < ord.length := by rw [HLX.out]; exact List.length_pos_iff.2 hz
              have d2 : ((ord.length : Int) == 0) = false := beq_eq_false_iff_ne.mpr (by omega)
              have d2' : (ord.length == 0) = false := beq_eq_false_iff_ne.mpr (by omega)
              have h := H'.out
              rw [if_neg hz] at h
              obtain ⟨ah, hah, h⟩ := Option.bind_eq_some_iff.1 h
              split at h
              rotate_left
              · cases h
              rename_i hahl
              obtain ⟨rab, hrab, h⟩ := Option.map_eq_some_iff.1 h
              obtain ⟨rfl, rfl⟩ := Prod.mk.inj h
              have hNpos : 0 < l0_1.length := by
                obtain ⟨x, hx⟩ : ∃ x, x ∈ XS := List.exists_mem_of_length_pos (List.length_pos_iff.2 hz)
                have := HL.out x hx; omega
              obtain ⟨b0, b1⟩ := HG.out.cb
              have HAH := Aside0.mk hah
              have HAL := Aside0.mk hahl
              have HRAB := Aside0.mk hrab
              have HP0 := Aside0.mk hpos
              have HN0 := Aside0.mk hNpos
              clear h hz hah hahl hrab hpos hNpos q0 q1
              go_wp2_with (first
                | (go_at_call 28; refine Aside0.out ?_))
              refine ⟨?_⟩
              refine (cfg_Ahead.calls k a0_0 A0_1 c0_1 l0_1 ah _ (Kd.C_below HR.out HG.out.bel) HC.out HAH.out).mono ?_
              rintro e W5 ⟨v8, rfl, hS8, hB5⟩
              have hR8 := Kd.S_R hS8
              obtain ⟨A8, c8, rfl⟩ := Kd.R_slice hR8
              have HG5 := Aside0.mk (HG.out.below hB5)
              have HR8 := Aside0.mk (Kd.R_bound hR8)
              have HR7 := Aside0.mk (Kd.R_below HR6.out hB5)
              have hgal2 := Aside0.mk HG.out.gal
              clear hS8 hR8 hB5 b0 b1 HR6
              obtain ⟨q0, q1⟩ := HG5.out.cg
              obtain ⟨qa, fa⟩ := HG5.out.ca 0 (by omega) (by have := HN0.out; omega)
              have HG6 := Aside0.mk (HG5.out.setA 0 0)
              simp only [show (0 : Int).toNat = 0 from rfl] at qa fa HG6
              have hp0 := eq_true HN0.out
              have hp1 : ((0 : Int) < (l0_1.length : Int)) = True := eq_true (by have := HN0.out; omega)
              have HH6 := Aside0.mk ((Hold.refl (fun k => k < W5.heap.size ∧ k ≠ ga) W5).setCell ⟨ga, 0, none⟩ (.int .i64 0) (fun hk => hk.2 rfl))
              obtain ⟨i0, hi0, hs0'⟩ := Option.map_eq_some_iff.1 info3
              have hs0 : i0.size = 1 := (Prod.mk.inj (Prod.mk.inj hs0').2).1
              clear hs0'
              obtain ⟨A9, hcut9, hrd9, hc9⟩ := print_cut_int (P := Try.prog) (k := .i64) 26 3 Try.underlying26 hi0 hs0 A5 c5 ord 1 (by omega) (by have := HP0.out; omega) (Kd.R_reads' HR7.out).2.1
              simp only [show (1 : Int).toNat = 1 from rfl] at hcut9 hrd9 hc9
              clear hi0 hs0
              obtain ⟨ot, hot⟩ : ∃ ot, ord.drop 1 = ot := ⟨_, rfl⟩
              have htl : ord.tail = ot := by rw [← hot, List.drop_one]
              have HTL := Aside0.mk htl
              have HOT := Aside0.mk hot
              rw [hot] at hcut9 hrd9 hc9
              have HRD9 := Aside0.mk hrd9
              have HC9 := Aside0.mk hc9
              clear hot htl hrd9 hc9
              go_simp
              go_wp2
              clear qa fa q0 q1 hp0 hp1 d2 d2'
              go_loopg [9, 11, 12] k (fun gk v9 v11 v12 Y => ∃ (ag : Bool) (ab : List Int), v9 = .bool ag ∧ Aside0 (if ag = true then gloop k P ah ot gk ab = some rab else ab = rab) ∧ Aside0 (GW w a0_0 A0_1 l0_1.length c0_1 Y g ga gp ab P) ∧ Aside0 (Hold (fun k => k < W5.heap.size ∧ k ≠ ga) W5 Y))
              case atStart => exact ⟨true, _, rfl, ⟨by rw [if_pos rfl, ← HTL.out]; exact HRAB.out⟩, HG6, HH6⟩
              case round =>
                clear HG6 HH6
                obtain ⟨ag, ab, rfl, HL9, HG9, HH9⟩ := hrel
                cases ag with
                | false =>
                  have h := HL9.out
                  rw [if_neg (by simp)] at h
                  subst h
                  obtain ⟨q0, q1⟩ := HG9.out.cg
                  obtain ⟨qa, fa⟩ := HG9.out.ca 0 (by omega) (by have := HN0.out; omega)
                  have HG10 := Aside0.mk (HG9.out.setA 0 (-1))
                  simp only [show (0 : Int).toNat = 0 from rfl] at qa fa HG10
                  have hp0 := eq_true HN0.out
                  have hp1 : ((0 : Int) < (l0_1.length : Int)) = True := eq_true (by have := HN0.out; omega)
                  go_wp2
                  go_ret
                  exact ⟨g, ga, gp, rfl, HG10.out⟩
                | true =>
                  have h := HL9.out
                  rw [if_pos rfl] at h
                  cases gk with
                  | zero => cases h
                  | succ gn =>
                    rw [gloop] at h
                    obtain ⟨⟨ab', ag'⟩, hps, h⟩ := Option.bind_eq_some_iff.1 h
                    have HPS := Aside0.mk hps
                    have HNX := Aside0.mk h
                    clear h hps HL9
                    go_wp2
                    clear hcut9
                    have hah8 : ∀ b : Int, 0 ≤ b → b < (l0_1.length : Int) → b < (ah.length : Int) := fun b _ h => by rw [HAL.out]; exact h
                    have HA8 := Aside0.mk hah8
                    have HMEM : Aside0 (∀ x ∈ ot, 0 ≤ x ∧ x < (l0_1.length : Int)) := ⟨fun x hx => HOX.out x (by rw [← HOT.out] at hx; exact List.mem_of_mem_drop hx)⟩
                    have HLOT : Aside0 (ot.length ≤ 1099511627776) := ⟨by rw [← HOT.out, List.length_drop]; have := HLX.out; have := HLX2.out; omega⟩
                    have HLP := Aside0.mk (HG9.out.lp)
                    clear hah8
                    go_loopg [9, 11, 12, 76] ot.length (fun ik v9 v11 v12 v76 Z => ∃ (j : Nat) (ag2 : Bool) (ab2 : List Int), v9 = .bool ag2 ∧ v76 = .int .i64 (j : Int) ∧ Aside0 (ik + j = ot.length) ∧ Aside0 (gpass k P ah (ot.drop j) ab2 ag2 = some (ab', ag')) ∧ Aside0 (GW w a0_0 A0_1 l0_1.length c0_1 Z g ga gp ab2 P) ∧ Aside0 (Hold (fun k => k < W5.heap.size ∧ k ≠ ga) W5 Z))
                    case atStart => exact ⟨0, false, ab, rfl, rfl, ⟨by omega⟩, ⟨by rw [List.drop_zero]; exact HPS.out⟩, HG9, HH9⟩
                    case round =>
                      clear HPS HG9 HH9
                      obtain ⟨j, ag2, ab2, rfl, rfl, HK2, HPS, HG9, HH9⟩ := hrel
                      by_cases hj : j < ot.length
                      · have d1b := decide_eq_true (show (j : Int) < (ot.length : Int) by omega)
                        have d1n := decide_eq_true hj
                        have hin := eq_true hj
                        have hR7 := HH9.out.row (T := fun k => k < W5.heap.size ∧ k ≠ ga) (Kd.R_bound HR7.out) (fun k hk => ⟨hk.2.2.1, by have h1 := hk.1.2.1; have := hgal.out.2; omega⟩)
                        have hrd9 := HRD9.out _ (Kd.reads_of_C (enc := Value.int .i64) (d := (0 : Int)) (h1 := fun _ => rfl) (Kd.R_reads' hR7).2.2)
                        obtain ⟨ad9, e9, hx9⟩ := hrd9.at_ (j : Int) (by omega) (by omega)
                        subst e9
                        rw [Int.toNat_natCast] at hx9
                        have hrdE : rd ot (j : Int) = ot[j] := by unfold rd; simp [hj]
                        have hmem : rd ot (j : Int) ∈ ot := by rw [hrdE]; exact List.getElem_mem hj
                        have hps := HPS.out
                        rw [List.drop_eq_getElem_cons hj, ← hrdE, gpass] at hps
                        obtain ⟨b, hb⟩ : ∃ b, rd ot (j : Int) = b := ⟨_, rfl⟩
                        rw [hb] at hx9 hmem hps
                        obtain ⟨b0, b1⟩ := HMEM.out b hmem
                        obtain ⟨u, hu, hps⟩ := Option.bind_eq_some_iff.1 hps
                        have hR8 := HH9.out.row (T := fun k => k < W5.heap.size ∧ k ≠ ga) HR8.out (fun k hk => ⟨hk.2.2.1, by have h1 := hk.2.1; have := hgal2.out.2; omega⟩)
                        obtain ⟨A8', c8', e8, hc8, hC8⟩ := Kd.R_reads hR8
                        obtain ⟨ad8, A0', c0', rfl, k0, f0, g0⟩ := at_L1 hC8 b b0 (HA8.out b b0 b1)
                        obtain ⟨rfl, -, rfl⟩ := Value.slice.inj e8
                        obtain ⟨q0, q1⟩ := HG9.out.cg
                        obtain ⟨qa, fa⟩ := HG9.out.ca b b0 b1
                        have hT := Aside0.mk HG9.out.tree
                        have hU := Aside0.mk hu
                        have hG0 := Aside0.mk g0
                        have hF0 := Aside0.mk f0
                        have S1 := Aside0.mk (HG9.out.setA b u)
                        have S2 := Aside0.mk (HH9.out.setCell ⟨ga, b.toNat, none⟩ (.int .i64 u) (fun hk => hk.2 rfl))
                        have p0 := eq_true b0
                        have p1 := eq_true b1
                        have p2 := eq_true (HA8.out b b0 b1)
                        have HJ := Aside0.mk hj
                        clear hb hrdE hmem hj hR7 hR8 hC8 hrd9 hu g0 f0 b0 b1 hc8
                        by_cases hne : u = rd ab2 b
                        · have hps' := hps
                          rw [if_pos hne] at hps'
                          have HPS' := Aside0.mk hps'
                          have d5 : (u != rd ab2 b) = false := bne_eq_false_iff_eq.mpr hne
                          have d6 : (u == rd ab2 b) = true := beq_iff_eq.mpr hne
                          clear hne hps hps'
                          go_wp2_with (first
                            | (go_at_call 37; (with_reducible refine (common_calls k g ab2 P _ _ _ _ A0' c0' (rd_L1 ah b) u _ hT.out hG0.out hU.out).mono ?_); rintro e Z2 ⟨rfl, ⟨nd, rfl⟩⟩))
                          go_roundg (gk - 1)
                          case measure => have h1 := HJ.out; have h2 := HK2.out; omega
                          case rel =>
                            have h1 := HJ.out
                            have h2 := HK2.out
                            have h3 := HLOT.out
                            refine ⟨j + 1, ag2, ab2, rfl, ?_, ⟨by omega⟩, HPS', ⟨HG9.out.below (pw_below_drewN (Below.refl _ _) _)⟩, ⟨HH9.out.drewN _⟩⟩
                            rw [show wrap64 ((j : Int) + 1) = ((j + 1 : Nat) : Int) from by unfold wrap64; omega]
                        · have hps' := hps
                          rw [if_neg hne] at hps'
                          have HPS' := Aside0.mk hps'
                          have d5 : (u != rd ab2 b) = true := bne_iff_ne.mpr hne
                          have d6 : (u == rd ab2 b) = false := beq_eq_false_iff_ne.mpr hne
                          have HGw := Aside0.mk HG9.out
                          clear hne hps hps'
                          go_wp2_with (first
                            | (go_at_call 37; (with_reducible refine (common_calls k g ab2 P _ _ _ _ A0' c0' (rd_L1 ah b) u _ hT.out hG0.out hU.out).mono ?_); rintro e Z2 ⟨rfl, ⟨nd, rfl⟩⟩))
                          go_roundg (gk - 1)
                          case measure => have h1 := HJ.out; have h2 := HK2.out; omega
                          case rel =>
                            have h1 := HJ.out
                            have h2 := HK2.out
                            have h3 := HLOT.out
                            refine ⟨j + 1, true, _, rfl, ?_, ⟨by omega⟩, HPS', ⟨(HG9.out.below (pw_below_drewN (Below.refl _ _) _)).setA b u⟩, ⟨(HH9.out.drewN _).setCell ⟨ga, b.toNat, none⟩ (.int .i64 u) (fun hk => hk.2 rfl)⟩⟩
                            rw [show wrap64 ((j : Int) + 1) = ((j + 1 : Nat) : Int) from by unfold wrap64; omega]
                      · have d1b := decide_eq_false hj
                        have hps := HPS.out
                        rw [List.drop_of_length_le (by omega), gpass] at hps
                        obtain ⟨rfl, rfl⟩ := Prod.mk.inj (Option.some.inj hps)
                        clear hps hj
                        go_wp2
                        go_roundg gn
                        case measure => omega
                        case rel => exact ⟨ag2, ab2, rfl, ⟨by have h := HNX.out; cases ag2 <;> simpa using h⟩, HG9, HH9⟩
theorem common_l1_mono (ab pl : List Int) : ∀ (k : Nat) (x y : Int), LeO (common_l1 ab pl k x y) (common_l1 ab pl (k + 1) x y) := by
  intro k
  induction k with
  | zero => intro x y; exact LeO.none _
  | succ k ih =>
    intro x y
    rw [common_l1, common_l1]
    exact LeO.ite (LeO.refl _) (LeO.ite (LeO.ite (ih _ _) (ih _ _)) (LeO.none _))
theorem common_l0_mono (k : Nat) (ab pl : List Int) : ∀ (l : List Int) (up : Int), LeO (common_l0 k ab pl l up) (common_l0 (k + 1) ab pl l up)
  | [], up => LeO.refl _
  | b :: l, up => by
    rw [common_l0, common_l0]
    exact LeO.ite (LeO.ite (common_l0_mono k ab pl l up) (LeO.bind (common_l1_mono ab pl k _ _) (fun u => common_l0_mono k ab pl l u))) (LeO.none _)
theorem common_mono (k : Nat) (ab pl l : List Int) : LeO (common_f k ab pl l) (common_f (k + 1) ab pl l) := common_l0_mono k ab pl l (-1)
theorem over_l0_mono (ab : List Int) (a : Int) : ∀ (k : Nat) (b : Int), LeO (over_l0 k ab a b) (over_l0 (k + 1) ab a b) := by
  intro k
  induction k with
  | zero => intro b; exact LeO.none _
  | succ k ih =>
    intro b
    rw [over_l0, over_l0]
    exact LeO.ite (LeO.refl _) (LeO.ite (LeO.ite (ih _) (LeO.none _)) (LeO.refl _))
theorem over_mono (k : Nat) (ab pl : List Int) (a b : Int) : LeO (over_f k ab pl a b) (over_f (k + 1) ab pl a b) := LeO.ite (LeO.refl _) (over_l0_mono ab a k b)
theorem gpass_mono (k : Nat) (pl : List Int) (ah : List (List Int)) : ∀ (l ab : List Int) (ag : Bool), LeO (gpass k pl ah l ab ag) (gpass (k + 1) pl ah l ab ag)
  | [], ab, ag => LeO.refl _
  | b :: l, ab, ag => by
    rw [gpass, gpass]
    exact LeO.bind (common_mono k ab pl _) (fun u => LeO.ite (gpass_mono k pl ah l _ _) (gpass_mono k pl ah l _ _))
theorem gloop_mono (k : Nat) (pl : List Int) (ah : List (List Int)) (ords : List Int) : ∀ (n : Nat) (ab : List Int), LeO (gloop k pl ah ords n ab) (gloop (k + 1) pl ah ords (n + 1) ab) := by
  intro n
  induction n with
  | zero => intro ab; exact LeO.none _
  | succ n ih =>
    intro ab
    rw [gloop, gloop]
    exact LeO.bind (gpass_mono k pl ah ords ab false) (fun r => LeO.ite (ih _) (LeO.refl _))
theorem dom_grown.mono : ∀ a0 a1 k, LeO (dom_grown.f k a0 a1) (dom_grown.f (k + 1) a0 a1) := by
  intro a0 a1 k
  unfold dom_grown.f
  refine LeO.bind (LeO.refl _) (fun XS => LeO.ite (LeO.refl _) (LeO.bind (cfg_Ahead.mono a0 a1 k) (fun ah => LeO.ite ?_ (LeO.none _))))
  exact LeO.map _ (gloop_mono k _ _ _ k _)

/-! ### dom_Above: function 10 -/
open Iter
set_option linter.unusedVariables false
set_option linter.unusedSimpArgs false
def dom_Above.f (k : Nat) (a0_0 : Int) (l0_1 : List (S54)) : Option (List Int) := (dom_grown.f k a0_0 l0_1).map Prod.fst
theorem dom_Above.mono : ∀ a0 a1 k, LeO (dom_Above.f k a0 a1) (dom_Above.f (k + 1) a0 a1) := fun a0 a1 k => LeO.map _ (dom_grown.mono a0 a1 k)
set_option maxHeartbeats 8000000 in
set_option maxRecDepth 100000 in
theorem dom_Above.calls (k : Nat) (a0_0 : Int) (A0_1 : Option Addr) (c0_1 : Nat) (l0_1 : List (S54)) (r : List Int) (w : World) (hr0_1 : Kd.C k54 w A0_1 l0_1.length l0_1) (hc0_1 : l0_1.length ≤ c0_1) (h : dom_Above.f k a0_0 l0_1 = some r) :
    Calls Try.prog 10 #[.agg #[.int .i64 a0_0, .slice A0_1 l0_1.length c0_1]] w fun e w' => ∃ v0_ : Value, e = .returned (v0_) ∧ Kd.R (Kd.int .i64) 3 w' w.heap.size (fun _ => True) v0_ r ∧ Below w.heap.size w w' := by
  unfold dom_Above.f at h
  obtain ⟨⟨r1, r2⟩, hg, rfl⟩ := Option.map_eq_some_iff.1 h
  have HR := Aside0.mk hr0_1
  have HC := Aside0.mk hc0_1
  have HG := Aside0.mk hg
  clear hr0_1 hc0_1 h hg
  have hu := Try.underlying24
  have HB := Aside0.mk (below_alloc (Below.refl w.heap.size w) (.cells #[.int .i64 a0_0, .slice A0_1 l0_1.length c0_1] 24))
  go_enter Try.func10, Try.ntmps10
  go_wp2_with (first
    | (go_at_call 25; refine Aside0.out ?_))
  refine ⟨?_⟩
  refine (dom_grown.calls k a0_0 A0_1 c0_1 l0_1 r1 r2 _ (Kd.C_below HR.out HB.out) HC.out HG.out).mono ?_
  rintro e W2 ⟨g, ga, gp, rfl, hg⟩
  obtain ⟨q0, q1⟩ := hg.cg
  have HG2 := Aside0.mk hg
  clear hg
  go_simp
  go_wp2
  go_ret
  refine ⟨_, rfl, ?_, below_step HB.out HG2.out.bel⟩
  have h1 := HG2.out.rab
  have h2 := HG2.out.la
  rw [← h2] at h1 ⊢
  exact Kd.R_lower (Kd.R_of_own (enc := Value.int .i64) (h1 := fun _ => rfl) h1 (fun _ _ => trivial)) (by simp; omega)

end Go.Proofs.Ytemclhndmcjmmaa.PDomEdges
