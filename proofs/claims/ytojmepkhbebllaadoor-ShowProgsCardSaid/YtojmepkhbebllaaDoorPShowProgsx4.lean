-- written by wip/print2.py
import Derived.Test.YtojmepkhbebllaaDoorPShowProgsx0
namespace Go.Proofs.YtojmepkhbebllaaDoor.PShowProgs
open Go.RowKit Go.Proofs.YtojmepkhbebllaaDoorW.PrintWords Go.Proofs.YtojmepkhbebllaaDoorW.PrintLast Go.Proofs.YtojmepkhbebllaaDoorW.PrintMore
attribute [local go_sem] max2_int min2_int max_two min_two max_three min_three max_four min_four   -- for this text's walks alone
set_option linter.unusedVariables false
set_option linter.unusedSimpArgs false

/-- A state of type 34 at block g of W; what its slices lead to came in by w0. -/
def IsS34 (w0 W : World) (g : Nat) (f0 : List (S52)) (f1 : List (S54)) (f2 : List (S44)) : Prop := ∃ A0 c0, ∃ A1 c1, ∃ A2 c2, W.heap[g]? = some (.cells #[.slice A0 f0.length c0, .slice A1 f1.length c1, .slice A2 f2.length c2] 34 (0, 0)) ∧ w0.heap.size ≤ g ∧ Kd.C k52 w0 A0 f0.length f0 ∧ Kd.C k54 w0 A1 f1.length f1 ∧ Kd.C k44 w0 A2 f2.length f2
theorem IsS34.grown {w0 W : World} {g : Nat} {f0 : List (S52)} {f1 : List (S54)} {f2 : List (S44)} {W1 : World} {row : Option Nat} (h : IsS34 w0 W g f0 f1 f2) (hw : W.grownBy W1 row) (hne : some g ≠ row) : IsS34 w0 W1 g f0 f1 f2 := by
  obtain ⟨A0, c0, A1, c1, A2, c2, hb, hg, hr0, hr1, hr2⟩ := h
  exact ⟨A0, c0, A1, c1, A2, c2, blk_grown hb hw hne, hg, hr0, hr1, hr2⟩
theorem IsS34.own_neN {w0 W : World} {g : Nat} {f0 : List (S52)} {f1 : List (S54)} {f2 : List (S44)} {α : Type} {d : Kd α} {e : Nat} {base : Nat} {ok : Nat → Prop} {v : Value} {xs : List α} (h : IsS34 w0 W g f0 f1 f2) (ho : Kd.N d e W base ok v xs) (ht : e ≠ 34) : some g ≠ v.ownBlock := by
  obtain ⟨A0, c0, A1, c1, A2, c2, hb, hg, hr0, hr1, hr2⟩ := h
  exact Kd.N_ne ho hb ht
theorem IsS34.fresh {w0 W : World} {g : Nat} {f0 : List (S52)} {f1 : List (S54)} {f2 : List (S44)} (h : IsS34 w0 W g f0 f1 f2) : ∀ k, W.heap.size ≤ k → k ≠ g := by
  obtain ⟨A0, c0, A1, c1, A2, c2, hb, hg, hr0, hr1, hr2⟩ := h
  exact Kd.freshB hb
theorem IsS34.kept {w0 W : World} {g : Nat} {f0 : List (S52)} {f1 : List (S54)} {f2 : List (S44)} {W1 : World} {S : Nat → Prop} (h : IsS34 w0 W g f0 f1 f2) (hk : Kept W W1 S) (hne : ¬ S g) : IsS34 w0 W1 g f0 f1 f2 := by
  obtain ⟨A0, c0, A1, c1, A2, c2, hb, hg, hr0, hr1, hr2⟩ := h
  exact ⟨A0, c0, A1, c1, A2, c2, blk_kept hb hk hne, hg, hr0, hr1, hr2⟩
theorem IsS34.below {w0 W : World} {g : Nat} {f0 : List (S52)} {f1 : List (S54)} {f2 : List (S44)} {W1 : World} (h : IsS34 w0 W g f0 f1 f2) (hw : Below W.heap.size W W1) : IsS34 w0 W1 g f0 f1 f2 := h.grown (grown_of_below hw none) (by simp)
theorem IsS34.alloc {w0 W : World} {g : Nat} {f0 : List (S52)} {f1 : List (S54)} {f2 : List (S44)} (h : IsS34 w0 W g f0 f1 f2) (o : Obj) : IsS34 w0 (W.alloc o) g f0 f1 f2 := h.below (below_alloc (Below.refl _ _) o)
theorem IsS34.drewN {w0 W : World} {g : Nat} {f0 : List (S52)} {f1 : List (S54)} {f2 : List (S44)} (h : IsS34 w0 W g f0 f1 f2) (m : Nat) : IsS34 w0 (W.drewN m) g f0 f1 f2 := h
theorem IsS34.drew {w0 W : World} {g : Nat} {f0 : List (S52)} {f1 : List (S54)} {f2 : List (S44)} (h : IsS34 w0 W g f0 f1 f2) : IsS34 w0 W.drew g f0 f1 f2 := h
theorem IsS34.at_ {w0 W : World} {g : Nat} {f0 : List (S52)} {f1 : List (S54)} {f2 : List (S44)} {w' : World} {m : Nat} (hq : W.drewN m = w') (h : IsS34 w0 W g f0 f1 f2) : IsS34 w0 w' g f0 f1 f2 := by subst hq; exact IsS34.drewN h m
theorem IsS34.apart {w0 W : World} {g : Nat} {f0 : List (S52)} {f1 : List (S54)} {f2 : List (S44)} {α : Type} {d : Kd α} {e : Nat} {base : Nat} {ok : Nat → Prop} {v : Value} {xs : List α} (h : IsS34 w0 W g f0 f1 f2) (ho : d.R e W base ok v xs) (ht : ∀ q, q ∈ e :: d.E → q ≠ 34) : d.R e W base (fun k => ok k ∧ k ≠ g) v xs := by
  obtain ⟨A0, c0, A1, c1, A2, c2, hb, hg, hr0, hr1, hr2⟩ := h
  exact Kd.R_types ho hb ht
theorem IsS34.own_ne {w0 W : World} {g : Nat} {f0 : List (S52)} {f1 : List (S54)} {f2 : List (S44)} {α : Type} {d : Kd α} {e : Nat} {base : Nat} {ok : Nat → Prop} {v : Value} {xs : List α} (h : IsS34 w0 W g f0 f1 f2) (ho : d.R e W base ok v xs) (ht : e ≠ 34) : some g ≠ v.ownBlock := by
  obtain ⟨A0, c0, A1, c1, A2, c2, hb, hg, hr0, hr1, hr2⟩ := h
  exact Kd.R_ne ho hb ht
theorem IsS34.apartQ {w0 W : World} {g : Nat} {f0 : List (S52)} {f1 : List (S54)} {f2 : List (S44)} {α : Type} {d : Kd α} {e : Nat} {base : Nat} {ok : Nat → Prop} {v : Value} {xs : List α} (h : IsS34 w0 W g f0 f1 f2) (ho : d.Q e W base ok v xs) (ht : ∀ q, q ∈ e :: d.E → q ≠ 34) : d.Q e W base (fun k => ok k ∧ k ≠ g) v xs := by
  obtain ⟨A0, c0, A1, c1, A2, c2, hb, hg, hr0, hr1, hr2⟩ := h
  exact Kd.Q_types ho hb ht
theorem IsS34.own_neQ {w0 W : World} {g : Nat} {f0 : List (S52)} {f1 : List (S54)} {f2 : List (S44)} {α : Type} {d : Kd α} {e : Nat} {base : Nat} {ok : Nat → Prop} {v : Value} {xs : List α} (h : IsS34 w0 W g f0 f1 f2) (ho : d.Q e W base ok v xs) (ht : e ≠ 34) : some g ≠ v.ownBlock := by
  obtain ⟨A0, c0, A1, c1, A2, c2, hb, hg, hr0, hr1, hr2⟩ := h
  exact Kd.Q_ne ho hb ht
theorem IsS34.apartS {w0 W : World} {g : Nat} {f0 : List (S52)} {f1 : List (S54)} {f2 : List (S44)} {α : Type} {d : Kd α} {e : Nat} {base : Nat} {ok : Nat → Prop} {v : Value} {xs : List α} (h : IsS34 w0 W g f0 f1 f2) (ho : d.S e W base ok v xs) (ht : ∀ q, q ∈ e :: d.E → q ≠ 34) : d.S e W base (fun k => ok k ∧ k ≠ g) v xs := by
  obtain ⟨A0, c0, A1, c1, A2, c2, hb, hg, hr0, hr1, hr2⟩ := h
  exact Kd.S_types ho hb ht
theorem IsS34.own_neS {w0 W : World} {g : Nat} {f0 : List (S52)} {f1 : List (S54)} {f2 : List (S44)} {α : Type} {d : Kd α} {e : Nat} {base : Nat} {ok : Nat → Prop} {v : Value} {xs : List α} (h : IsS34 w0 W g f0 f1 f2) (ho : d.S e W base ok v xs) (ht : e ≠ 34) : some g ≠ v.ownBlock := by
  obtain ⟨A0, c0, A1, c1, A2, c2, hb, hg, hr0, hr1, hr2⟩ := h
  exact Kd.S_ne ho hb ht
theorem IsS34.lt {w0 W : World} {g : Nat} {f0 : List (S52)} {f1 : List (S54)} {f2 : List (S44)} (h : IsS34 w0 W g f0 f1 f2) : g < W.heap.size := by
  obtain ⟨A0, c0, A1, c1, A2, c2, hb, hg, hr0, hr1, hr2⟩ := h
  exact blk_lt hb
theorem IsS34.ge {w0 W : World} {g : Nat} {f0 : List (S52)} {f1 : List (S54)} {f2 : List (S44)} (h : IsS34 w0 W g f0 f1 f2) : w0.heap.size ≤ g := by
  obtain ⟨A0, c0, A1, c1, A2, c2, hb, hg, hr0, hr1, hr2⟩ := h
  exact hg
theorem IsS34.ne_blk {w0 W : World} {g : Nat} {f0 : List (S52)} {f1 : List (S54)} {f2 : List (S44)} {a : Nat} {cs : Array Value} {t : TypeId} {fr : Nat × Nat} (h : IsS34 w0 W g f0 f1 f2) (hb2 : W.heap[a]? = some (.cells cs t fr)) (ht : t ≠ 34) : g ≠ a := by
  obtain ⟨A0, c0, A1, c1, A2, c2, hb, hg, hr0, hr1, hr2⟩ := h
  rintro rfl
  rw [hb] at hb2
  injection hb2 with hb2
  injection hb2 with _ ht2
  exact ht ht2.symm
theorem IsS34.far {w0 W : World} {g : Nat} {f0 : List (S52)} {f1 : List (S54)} {f2 : List (S44)} {p : Addr} (h : IsS34 w0 W g f0 f1 f2) (hne : g ≠ p.block) (u : Value) : IsS34 w0 (W.setCell p u) g f0 f1 f2 := by
  obtain ⟨A0, c0, A1, c1, A2, c2, hb, hg, hr0, hr1, hr2⟩ := h
  exact ⟨A0, c0, A1, c1, A2, c2, blk_far hb hne u, hg, hr0, hr1, hr2⟩
theorem cellS34_0 {W : World} {g : Nat} {A0 : Option Addr} {c0 : Nat} {A1 : Option Addr} {c1 : Nat} {A2 : Option Addr} {c2 : Nat} {f0 : List (S52)} {f1 : List (S54)} {f2 : List (S44)} (h : W.heap[g]? = some (.cells #[.slice A0 f0.length c0, .slice A1 f1.length c1, .slice A2 f2.length c2] 34 (0, 0))) : W.cell? ⟨g, 0, none⟩ = some (.slice A0 f0.length c0) := (blk_cell h 0).trans rfl
theorem cellS34_1 {W : World} {g : Nat} {A0 : Option Addr} {c0 : Nat} {A1 : Option Addr} {c1 : Nat} {A2 : Option Addr} {c2 : Nat} {f0 : List (S52)} {f1 : List (S54)} {f2 : List (S44)} (h : W.heap[g]? = some (.cells #[.slice A0 f0.length c0, .slice A1 f1.length c1, .slice A2 f2.length c2] 34 (0, 0))) : W.cell? ⟨g, 1, none⟩ = some (.slice A1 f1.length c1) := (blk_cell h 1).trans rfl
theorem cellS34_2 {W : World} {g : Nat} {A0 : Option Addr} {c0 : Nat} {A1 : Option Addr} {c1 : Nat} {A2 : Option Addr} {c2 : Nat} {f0 : List (S52)} {f1 : List (S54)} {f2 : List (S44)} (h : W.heap[g]? = some (.cells #[.slice A0 f0.length c0, .slice A1 f1.length c1, .slice A2 f2.length c2] 34 (0, 0))) : W.cell? ⟨g, 2, none⟩ = some (.slice A2 f2.length c2) := (blk_cell h 2).trans rfl
theorem IsS34.new (w0 W : World) (A0 : Option Addr) (c0 : Nat) (A1 : Option Addr) (c1 : Nat) (A2 : Option Addr) (c2 : Nat) (f0 : List (S52)) (f1 : List (S54)) (f2 : List (S44)) (hB : Below w0.heap.size w0 W) (hr0 : Kd.C k52 w0 A0 f0.length f0) (hr1 : Kd.C k54 w0 A1 f1.length f1) (hr2 : Kd.C k44 w0 A2 f2.length f2) : IsS34 w0 (W.alloc (.cells #[.slice A0 f0.length c0, .slice A1 f1.length c1, .slice A2 f2.length c2] 34)) W.heap.size f0 f1 f2 := ⟨A0, c0, A1, c1, A2, c2, by simpa using heap_alloc_new W _, hB.size, hr0, hr1, hr2⟩

/-! ### hallmarkref05_Small: function 12 -/
mutual
def hallmarkref05_Small.j1 : Nat → Int → Int → List (S52) → List (S54) → List (S44) → Option (Bool)
 | 0, _, _, _, _, _ => none
 | k + 1, x1, x5, x1000, x1001, x1002 => hallmarkref05_Small.l1 k x1 x5 0 x1000 x1001 x1002
def hallmarkref05_Small.j3 : Nat → Int → Int → List (S52) → List (S54) → List (S44) → Option (Bool)
 | 0, _, _, _, _, _ => none
 | k + 1, x1, x5, x1000, x1001, x1002 => hallmarkref05_Small.l2 k x1 x5 0 x1000 x1001 x1002
def hallmarkref05_Small.l2 : Nat → Int → Int → Int → List (S52) → List (S54) → List (S44) → Option (Bool)
 | 0, _, _, _, _, _, _ => none
 | k + 1, x1, x5, x8, x1000, x1001, x1002 => if x8 < (x1002.length : Int) then (hallmarkref05_Small.j5 k x1 x5 x8 (decide (x5 ≤ x1)) x1000 x1001 x1002) else (hallmarkref05_Small.j5 k x1 x5 x8 false x1000 x1001 x1002)
def hallmarkref05_Small.j5 : Nat → Int → Int → Int → Bool → List (S52) → List (S54) → List (S44) → Option (Bool)
 | 0, _, _, _, _, _, _, _ => none
 | k + 1, x1, x5, x8, x102, x1000, x1001, x1002 => if x102 = true then (if 0 ≤ x8 then (if x8 < (x1002.length : Int) then (hallmarkref05_Small.l3 k x1 (wrap64 (x5 + (((rd_T44 x1002 x8).f1).length : Int))) x8 0 x1000 x1001 x1002) else (none)) else (none)) else (some (decide (x5 ≤ x1)))
def hallmarkref05_Small.l3 : Nat → Int → Int → Int → Int → List (S52) → List (S54) → List (S44) → Option (Bool)
 | 0, _, _, _, _, _, _, _ => none
 | k + 1, x1, x5, x8, x9, x1000, x1001, x1002 => if 0 ≤ x8 then (if x8 < (x1002.length : Int) then (if x9 < (((rd_T44 x1002 x8).f1).length : Int) then (hallmarkref05_Small.j7 k x1 x5 x8 x9 (decide (x5 ≤ x1)) x1000 x1001 x1002) else (hallmarkref05_Small.j7 k x1 x5 x8 x9 false x1000 x1001 x1002)) else (none)) else (none)
def hallmarkref05_Small.j7 : Nat → Int → Int → Int → Int → Bool → List (S52) → List (S54) → List (S44) → Option (Bool)
 | 0, _, _, _, _, _, _, _, _ => none
 | k + 1, x1, x5, x8, x9, x131, x1000, x1001, x1002 => if x131 = true then (if 0 ≤ x8 then (if x8 < (x1002.length : Int) then (if 0 ≤ x9 then (if x9 < (((rd_T44 x1002 x8).f1).length : Int) then (hallmarkref05_Small.l4 k x1 (wrap64 ((wrap64 ((wrap64 ((wrap64 (x5 + (((rd_T59 ((rd_T44 x1002 x8).f1) x9).f0).length : Int))) + (((rd_T59 ((rd_T44 x1002 x8).f1) x9).f1).length : Int))) + (((rd_T59 ((rd_T44 x1002 x8).f1) x9).f2.f4).length : Int))) + (((rd_T59 ((rd_T44 x1002 x8).f1) x9).f2.f5).length : Int))) x8 x9 0 x1000 x1001 x1002 ((rd_T59 ((rd_T44 x1002 x8).f1) x9).f0) ((rd_T59 ((rd_T44 x1002 x8).f1) x9).f1) ((rd_T59 ((rd_T44 x1002 x8).f1) x9).f2.f0) ((rd_T59 ((rd_T44 x1002 x8).f1) x9).f2.f1) ((rd_T59 ((rd_T44 x1002 x8).f1) x9).f2.f2) ((rd_T59 ((rd_T44 x1002 x8).f1) x9).f2.f3) ((rd_T59 ((rd_T44 x1002 x8).f1) x9).f2.f4) ((rd_T59 ((rd_T44 x1002 x8).f1) x9).f2.f5)) else (none)) else (none)) else (none)) else (none)) else (hallmarkref05_Small.l2 k x1 x5 (wrap64 (x8 + 1)) x1000 x1001 x1002)
def hallmarkref05_Small.l4 : Nat → Int → Int → Int → Int → Int → List (S52) → List (S54) → List (S44) → List Int → List (S24) → Int → Int → Int → Int → List Int → List Int → Option (Bool)
 | 0, _, _, _, _, _, _, _, _, _, _, _, _, _, _, _, _ => none
 | k + 1, x1, x5, x8, x9, x11, x1000, x1001, x1002, x129000, x129001, x129002, x129003, x129004, x129005, x129006, x129007 => if x11 < (x129001.length : Int) then (if x5 ≤ x1 then (if 0 ≤ x11 then (hallmarkref05_Small.l4 k x1 (wrap64 ((wrap64 (x5 + (((rd_T24 x129001 x11).f6).length : Int))) + (wrap64 ((((rd_T24 x129001 x11).f5).size : Int) / 8)))) x8 x9 (wrap64 (x11 + 1)) x1000 x1001 x1002 x129000 x129001 x129002 x129003 x129004 x129005 x129006 x129007) else (none)) else (hallmarkref05_Small.l3 k x1 x5 x8 (wrap64 (x9 + 1)) x1000 x1001 x1002)) else (hallmarkref05_Small.l3 k x1 x5 x8 (wrap64 (x9 + 1)) x1000 x1001 x1002)
def hallmarkref05_Small.l1 : Nat → Int → Int → Int → List (S52) → List (S54) → List (S44) → Option (Bool)
 | 0, _, _, _, _, _, _ => none
 | k + 1, x1, x5, x7, x1000, x1001, x1002 => if x7 < (x1001.length : Int) then (if x5 ≤ x1 then (if 0 ≤ x7 then (hallmarkref05_Small.l1 k x1 (wrap64 ((wrap64 (x5 + (((rd_T54 x1001 x7).f0).length : Int))) + (((rd_T54 x1001 x7).f1).length : Int))) (wrap64 (x7 + 1)) x1000 x1001 x1002) else (none)) else (hallmarkref05_Small.j3 k x1 x5 x1000 x1001 x1002)) else (hallmarkref05_Small.j3 k x1 x5 x1000 x1001 x1002)
def hallmarkref05_Small.l0 : Nat → Int → Int → Int → List (S52) → List (S54) → List (S44) → Option (Bool)
 | 0, _, _, _, _, _, _ => none
 | k + 1, x1, x5, x6, x1000, x1001, x1002 => if x6 < (x1000.length : Int) then (if x5 ≤ x1 then (if 0 ≤ x6 then (hallmarkref05_Small.l0 k x1 (wrap64 (x5 + (((rd_T52 x1000 x6).f0).length : Int))) (wrap64 (x6 + 1)) x1000 x1001 x1002) else (none)) else (hallmarkref05_Small.j1 k x1 x5 x1000 x1001 x1002)) else (hallmarkref05_Small.j1 k x1 x5 x1000 x1001 x1002)
end
def hallmarkref05_Small.f (k : Nat) (s0_0 : List (S52)) (s0_1 : List (S54)) (s0_2 : List (S44)) (a1 : Int) : Option (Bool) := hallmarkref05_Small.l0 k a1 (wrap64 ((wrap64 ((s0_0.length : Int) + (s0_1.length : Int))) + (s0_2.length : Int))) 0 s0_0 s0_1 s0_2
theorem hallmarkref05_Small.mono_l : ∀ k, (∀ y0 y1 y2 y3 y4, LeO (hallmarkref05_Small.j1 k y0 y1 y2 y3 y4) (hallmarkref05_Small.j1 (k + 1) y0 y1 y2 y3 y4)) ∧ (∀ y0 y1 y2 y3 y4, LeO (hallmarkref05_Small.j3 k y0 y1 y2 y3 y4) (hallmarkref05_Small.j3 (k + 1) y0 y1 y2 y3 y4)) ∧ (∀ y0 y1 y2 y3 y4 y5, LeO (hallmarkref05_Small.l2 k y0 y1 y2 y3 y4 y5) (hallmarkref05_Small.l2 (k + 1) y0 y1 y2 y3 y4 y5)) ∧ (∀ y0 y1 y2 y3 y4 y5 y6, LeO (hallmarkref05_Small.j5 k y0 y1 y2 y3 y4 y5 y6) (hallmarkref05_Small.j5 (k + 1) y0 y1 y2 y3 y4 y5 y6)) ∧ (∀ y0 y1 y2 y3 y4 y5 y6, LeO (hallmarkref05_Small.l3 k y0 y1 y2 y3 y4 y5 y6) (hallmarkref05_Small.l3 (k + 1) y0 y1 y2 y3 y4 y5 y6)) ∧ (∀ y0 y1 y2 y3 y4 y5 y6 y7, LeO (hallmarkref05_Small.j7 k y0 y1 y2 y3 y4 y5 y6 y7) (hallmarkref05_Small.j7 (k + 1) y0 y1 y2 y3 y4 y5 y6 y7)) ∧ (∀ y0 y1 y2 y3 y4 y5 y6 y7 y8 y9 y10 y11 y12 y13 y14 y15, LeO (hallmarkref05_Small.l4 k y0 y1 y2 y3 y4 y5 y6 y7 y8 y9 y10 y11 y12 y13 y14 y15) (hallmarkref05_Small.l4 (k + 1) y0 y1 y2 y3 y4 y5 y6 y7 y8 y9 y10 y11 y12 y13 y14 y15)) ∧ (∀ y0 y1 y2 y3 y4 y5, LeO (hallmarkref05_Small.l1 k y0 y1 y2 y3 y4 y5) (hallmarkref05_Small.l1 (k + 1) y0 y1 y2 y3 y4 y5)) ∧ (∀ y0 y1 y2 y3 y4 y5, LeO (hallmarkref05_Small.l0 k y0 y1 y2 y3 y4 y5) (hallmarkref05_Small.l0 (k + 1) y0 y1 y2 y3 y4 y5))
 | 0 => ⟨fun _ _ _ _ _ r h => by simp [hallmarkref05_Small.j1] at h, fun _ _ _ _ _ r h => by simp [hallmarkref05_Small.j3] at h, fun _ _ _ _ _ _ r h => by simp [hallmarkref05_Small.l2] at h, fun _ _ _ _ _ _ _ r h => by simp [hallmarkref05_Small.j5] at h, fun _ _ _ _ _ _ _ r h => by simp [hallmarkref05_Small.l3] at h, fun _ _ _ _ _ _ _ _ r h => by simp [hallmarkref05_Small.j7] at h, fun _ _ _ _ _ _ _ _ _ _ _ _ _ _ _ _ r h => by simp [hallmarkref05_Small.l4] at h, fun _ _ _ _ _ _ r h => by simp [hallmarkref05_Small.l1] at h, fun _ _ _ _ _ _ r h => by simp [hallmarkref05_Small.l0] at h⟩
 | k + 1 => by
  obtain ⟨ih0, ih1, ih2, ih3, ih4, ih5, ih6, ih7, ih8⟩ := hallmarkref05_Small.mono_l k
  refine ⟨?_, ?_, ?_, ?_, ?_, ?_, ?_, ?_, ?_⟩
  ·intro y0 y1 y2 y3 y4
   unfold hallmarkref05_Small.j1
   repeat' first
   | (with_reducible exact ih0 _ _ _ _ _)
   | (with_reducible exact ih1 _ _ _ _ _)
   | (with_reducible exact ih2 _ _ _ _ _ _)
   | (with_reducible exact ih3 _ _ _ _ _ _ _)
   | (with_reducible exact ih4 _ _ _ _ _ _ _)
   | (with_reducible exact ih5 _ _ _ _ _ _ _ _)
   | (with_reducible exact ih6 _ _ _ _ _ _ _ _ _ _ _ _ _ _ _ _)
   | (with_reducible exact ih7 _ _ _ _ _ _)
   | (with_reducible exact ih8 _ _ _ _ _ _)
   | (with_reducible exact LeO.refl _)
   | (with_reducible exact LeO.none _)
   | (with_reducible refine LeO.ite ?_ ?_)
   | (with_reducible refine LeO.bind ?_ (fun _ => ?_))
   | exact ih0 _ _ _ _ _
   | exact ih1 _ _ _ _ _
   | exact ih2 _ _ _ _ _ _
   | exact ih3 _ _ _ _ _ _ _
   | exact ih4 _ _ _ _ _ _ _
   | exact ih5 _ _ _ _ _ _ _ _
   | exact ih6 _ _ _ _ _ _ _ _ _ _ _ _ _ _ _ _
   | exact ih7 _ _ _ _ _ _
   | exact ih8 _ _ _ _ _ _
   | exact LeO.none _
   | refine LeO.ite ?_ ?_
   | refine LeO.bind ?_ (fun _ => ?_)
  ·intro y0 y1 y2 y3 y4
   unfold hallmarkref05_Small.j3
   repeat' first
   | (with_reducible exact ih0 _ _ _ _ _)
   | (with_reducible exact ih1 _ _ _ _ _)
   | (with_reducible exact ih2 _ _ _ _ _ _)
   | (with_reducible exact ih3 _ _ _ _ _ _ _)
   | (with_reducible exact ih4 _ _ _ _ _ _ _)
   | (with_reducible exact ih5 _ _ _ _ _ _ _ _)
   | (with_reducible exact ih6 _ _ _ _ _ _ _ _ _ _ _ _ _ _ _ _)
   | (with_reducible exact ih7 _ _ _ _ _ _)
   | (with_reducible exact ih8 _ _ _ _ _ _)
   | (with_reducible exact LeO.refl _)
   | (with_reducible exact LeO.none _)
   | (with_reducible refine LeO.ite ?_ ?_)
   | (with_reducible refine LeO.bind ?_ (fun _ => ?_))
   | exact ih0 _ _ _ _ _
   | exact ih1 _ _ _ _ _
   | exact ih2 _ _ _ _ _ _
   | exact ih3 _ _ _ _ _ _ _
   | exact ih4 _ _ _ _ _ _ _
   | exact ih5 _ _ _ _ _ _ _ _
   | exact ih6 _ _ _ _ _ _ _ _ _ _ _ _ _ _ _ _
   | exact ih7 _ _ _ _ _ _
   | exact ih8 _ _ _ _ _ _
   | exact LeO.none _
   | refine LeO.ite ?_ ?_
   | refine LeO.bind ?_ (fun _ => ?_)
  ·intro y0 y1 y2 y3 y4 y5
   unfold hallmarkref05_Small.l2
   repeat' first
   | (with_reducible exact ih0 _ _ _ _ _)
   | (with_reducible exact ih1 _ _ _ _ _)
   | (with_reducible exact ih2 _ _ _ _ _ _)
   | (with_reducible exact ih3 _ _ _ _ _ _ _)
   | (with_reducible exact ih4 _ _ _ _ _ _ _)
   | (with_reducible exact ih5 _ _ _ _ _ _ _ _)
   | (with_reducible exact ih6 _ _ _ _ _ _ _ _ _ _ _ _ _ _ _ _)
   | (with_reducible exact ih7 _ _ _ _ _ _)
   | (with_reducible exact ih8 _ _ _ _ _ _)
   | (with_reducible exact LeO.refl _)
   | (with_reducible exact LeO.none _)
   | (with_reducible refine LeO.ite ?_ ?_)
   | (with_reducible refine LeO.bind ?_ (fun _ => ?_))
   | exact ih0 _ _ _ _ _
   | exact ih1 _ _ _ _ _
   | exact ih2 _ _ _ _ _ _
   | exact ih3 _ _ _ _ _ _ _
   | exact ih4 _ _ _ _ _ _ _
   | exact ih5 _ _ _ _ _ _ _ _
   | exact ih6 _ _ _ _ _ _ _ _ _ _ _ _ _ _ _ _
   | exact ih7 _ _ _ _ _ _
   | exact ih8 _ _ _ _ _ _
   | exact LeO.none _
   | refine LeO.ite ?_ ?_
   | refine LeO.bind ?_ (fun _ => ?_)
  ·intro y0 y1 y2 y3 y4 y5 y6
   unfold hallmarkref05_Small.j5
   repeat' first
   | (with_reducible exact ih0 _ _ _ _ _)
   | (with_reducible exact ih1 _ _ _ _ _)
   | (with_reducible exact ih2 _ _ _ _ _ _)
   | (with_reducible exact ih3 _ _ _ _ _ _ _)
   | (with_reducible exact ih4 _ _ _ _ _ _ _)
   | (with_reducible exact ih5 _ _ _ _ _ _ _ _)
   | (with_reducible exact ih6 _ _ _ _ _ _ _ _ _ _ _ _ _ _ _ _)
   | (with_reducible exact ih7 _ _ _ _ _ _)
   | (with_reducible exact ih8 _ _ _ _ _ _)
   | (with_reducible exact LeO.refl _)
   | (with_reducible exact LeO.none _)
   | (with_reducible refine LeO.ite ?_ ?_)
   | (with_reducible refine LeO.bind ?_ (fun _ => ?_))
   | exact ih0 _ _ _ _ _
   | exact ih1 _ _ _ _ _
   | exact ih2 _ _ _ _ _ _
   | exact ih3 _ _ _ _ _ _ _
   | exact ih4 _ _ _ _ _ _ _
   | exact ih5 _ _ _ _ _ _ _ _
   | exact ih6 _ _ _ _ _ _ _ _ _ _ _ _ _ _ _ _
   | exact ih7 _ _ _ _ _ _
   | exact ih8 _ _ _ _ _ _
   | exact LeO.none _
   | refine LeO.ite ?_ ?_
   | refine LeO.bind ?_ (fun _ => ?_)
  ·intro y0 y1 y2 y3 y4 y5 y6
   unfold hallmarkref05_Small.l3
   repeat' first
   | (with_reducible exact ih0 _ _ _ _ _)
   | (with_reducible exact ih1 _ _ _ _ _)
   | (with_reducible exact ih2 _ _ _ _ _ _)
   | (with_reducible exact ih3 _ _ _ _ _ _ _)
   | (with_reducible exact ih4 _ _ _ _ _ _ _)
   | (with_reducible exact ih5 _ _ _ _ _ _ _ _)
   | (with_reducible exact ih6 _ _ _ _ _ _ _ _ _ _ _ _ _ _ _ _)
   | (with_reducible exact ih7 _ _ _ _ _ _)
   | (with_reducible exact ih8 _ _ _ _ _ _)
   | (with_reducible exact LeO.refl _)
   | (with_reducible exact LeO.none _)
   | (with_reducible refine LeO.ite ?_ ?_)
   | (with_reducible refine LeO.bind ?_ (fun _ => ?_))
   | exact ih0 _ _ _ _ _
   | exact ih1 _ _ _ _ _
   | exact ih2 _ _ _ _ _ _
   | exact ih3 _ _ _ _ _ _ _
   | exact ih4 _ _ _ _ _ _ _
   | exact ih5 _ _ _ _ _ _ _ _
   | exact ih6 _ _ _ _ _ _ _ _ _ _ _ _ _ _ _ _
   | exact ih7 _ _ _ _ _ _
   | exact ih8 _ _ _ _ _ _
   | exact LeO.none _
   | refine LeO.ite ?_ ?_
   | refine LeO.bind ?_ (fun _ => ?_)
  ·intro y0 y1 y2 y3 y4 y5 y6 y7
   unfold hallmarkref05_Small.j7
   repeat' first
   | (with_reducible exact ih0 _ _ _ _ _)
   | (with_reducible exact ih1 _ _ _ _ _)
   | (with_reducible exact ih2 _ _ _ _ _ _)
   | (with_reducible exact ih3 _ _ _ _ _ _ _)
   | (with_reducible exact ih4 _ _ _ _ _ _ _)
   | (with_reducible exact ih5 _ _ _ _ _ _ _ _)
   | (with_reducible exact ih6 _ _ _ _ _ _ _ _ _ _ _ _ _ _ _ _)
   | (with_reducible exact ih7 _ _ _ _ _ _)
   | (with_reducible exact ih8 _ _ _ _ _ _)
   | (with_reducible exact LeO.refl _)
   | (with_reducible exact LeO.none _)
   | (with_reducible refine LeO.ite ?_ ?_)
   | (with_reducible refine LeO.bind ?_ (fun _ => ?_))
   | exact ih0 _ _ _ _ _
   | exact ih1 _ _ _ _ _
   | exact ih2 _ _ _ _ _ _
   | exact ih3 _ _ _ _ _ _ _
   | exact ih4 _ _ _ _ _ _ _
   | exact ih5 _ _ _ _ _ _ _ _
   | exact ih6 _ _ _ _ _ _ _ _ _ _ _ _ _ _ _ _
   | exact ih7 _ _ _ _ _ _
   | exact ih8 _ _ _ _ _ _
   | exact LeO.none _
   | refine LeO.ite ?_ ?_
   | refine LeO.bind ?_ (fun _ => ?_)
  ·intro y0 y1 y2 y3 y4 y5 y6 y7 y8 y9 y10 y11 y12 y13 y14 y15
   unfold hallmarkref05_Small.l4
   repeat' first
   | (with_reducible exact ih0 _ _ _ _ _)
   | (with_reducible exact ih1 _ _ _ _ _)
   | (with_reducible exact ih2 _ _ _ _ _ _)
   | (with_reducible exact ih3 _ _ _ _ _ _ _)
   | (with_reducible exact ih4 _ _ _ _ _ _ _)
   | (with_reducible exact ih5 _ _ _ _ _ _ _ _)
   | (with_reducible exact ih6 _ _ _ _ _ _ _ _ _ _ _ _ _ _ _ _)
   | (with_reducible exact ih7 _ _ _ _ _ _)
   | (with_reducible exact ih8 _ _ _ _ _ _)
   | (with_reducible exact LeO.refl _)
   | (with_reducible exact LeO.none _)
   | (with_reducible refine LeO.ite ?_ ?_)
   | (with_reducible refine LeO.bind ?_ (fun _ => ?_))
   | exact ih0 _ _ _ _ _
   | exact ih1 _ _ _ _ _
   | exact ih2 _ _ _ _ _ _
   | exact ih3 _ _ _ _ _ _ _
   | exact ih4 _ _ _ _ _ _ _
   | exact ih5 _ _ _ _ _ _ _ _
   | exact ih6 _ _ _ _ _ _ _ _ _ _ _ _ _ _ _ _
   | exact ih7 _ _ _ _ _ _
   | exact ih8 _ _ _ _ _ _
   | exact LeO.none _
   | refine LeO.ite ?_ ?_
   | refine LeO.bind ?_ (fun _ => ?_)
  ·intro y0 y1 y2 y3 y4 y5
   unfold hallmarkref05_Small.l1
   repeat' first
   | (with_reducible exact ih0 _ _ _ _ _)
   | (with_reducible exact ih1 _ _ _ _ _)
   | (with_reducible exact ih2 _ _ _ _ _ _)
   | (with_reducible exact ih3 _ _ _ _ _ _ _)
   | (with_reducible exact ih4 _ _ _ _ _ _ _)
   | (with_reducible exact ih5 _ _ _ _ _ _ _ _)
   | (with_reducible exact ih6 _ _ _ _ _ _ _ _ _ _ _ _ _ _ _ _)
   | (with_reducible exact ih7 _ _ _ _ _ _)
   | (with_reducible exact ih8 _ _ _ _ _ _)
   | (with_reducible exact LeO.refl _)
   | (with_reducible exact LeO.none _)
   | (with_reducible refine LeO.ite ?_ ?_)
   | (with_reducible refine LeO.bind ?_ (fun _ => ?_))
   | exact ih0 _ _ _ _ _
   | exact ih1 _ _ _ _ _
   | exact ih2 _ _ _ _ _ _
   | exact ih3 _ _ _ _ _ _ _
   | exact ih4 _ _ _ _ _ _ _
   | exact ih5 _ _ _ _ _ _ _ _
   | exact ih6 _ _ _ _ _ _ _ _ _ _ _ _ _ _ _ _
   | exact ih7 _ _ _ _ _ _
   | exact ih8 _ _ _ _ _ _
   | exact LeO.none _
   | refine LeO.ite ?_ ?_
   | refine LeO.bind ?_ (fun _ => ?_)
  ·intro y0 y1 y2 y3 y4 y5
   unfold hallmarkref05_Small.l0
   repeat' first
   | (with_reducible exact ih0 _ _ _ _ _)
   | (with_reducible exact ih1 _ _ _ _ _)
   | (with_reducible exact ih2 _ _ _ _ _ _)
   | (with_reducible exact ih3 _ _ _ _ _ _ _)
   | (with_reducible exact ih4 _ _ _ _ _ _ _)
   | (with_reducible exact ih5 _ _ _ _ _ _ _ _)
   | (with_reducible exact ih6 _ _ _ _ _ _ _ _ _ _ _ _ _ _ _ _)
   | (with_reducible exact ih7 _ _ _ _ _ _)
   | (with_reducible exact ih8 _ _ _ _ _ _)
   | (with_reducible exact LeO.refl _)
   | (with_reducible exact LeO.none _)
   | (with_reducible refine LeO.ite ?_ ?_)
   | (with_reducible refine LeO.bind ?_ (fun _ => ?_))
   | exact ih0 _ _ _ _ _
   | exact ih1 _ _ _ _ _
   | exact ih2 _ _ _ _ _ _
   | exact ih3 _ _ _ _ _ _ _
   | exact ih4 _ _ _ _ _ _ _
   | exact ih5 _ _ _ _ _ _ _ _
   | exact ih6 _ _ _ _ _ _ _ _ _ _ _ _ _ _ _ _
   | exact ih7 _ _ _ _ _ _
   | exact ih8 _ _ _ _ _ _
   | exact LeO.none _
   | refine LeO.ite ?_ ?_
   | refine LeO.bind ?_ (fun _ => ?_)
theorem hallmarkref05_Small.mono : ∀ a0 a1 a2 a3 k, LeO (hallmarkref05_Small.f k a0 a1 a2 a3) (hallmarkref05_Small.f (k + 1) a0 a1 a2 a3) := by
 intro a0 a1 a2 a3 k
 obtain ⟨ih0, ih1, ih2, ih3, ih4, ih5, ih6, ih7, ih8⟩ := hallmarkref05_Small.mono_l k
 unfold hallmarkref05_Small.f
 repeat' first
   | (with_reducible exact ih0 _ _ _ _ _)
   | (with_reducible exact ih1 _ _ _ _ _)
   | (with_reducible exact ih2 _ _ _ _ _ _)
   | (with_reducible exact ih3 _ _ _ _ _ _ _)
   | (with_reducible exact ih4 _ _ _ _ _ _ _)
   | (with_reducible exact ih5 _ _ _ _ _ _ _ _)
   | (with_reducible exact ih6 _ _ _ _ _ _ _ _ _ _ _ _ _ _ _ _)
   | (with_reducible exact ih7 _ _ _ _ _ _)
   | (with_reducible exact ih8 _ _ _ _ _ _)
   | (with_reducible exact LeO.refl _)
   | (with_reducible exact LeO.none _)
   | (with_reducible refine LeO.ite ?_ ?_)
   | (with_reducible refine LeO.bind ?_ (fun _ => ?_))
   | exact ih0 _ _ _ _ _
   | exact ih1 _ _ _ _ _
   | exact ih2 _ _ _ _ _ _
   | exact ih3 _ _ _ _ _ _ _
   | exact ih4 _ _ _ _ _ _ _
   | exact ih5 _ _ _ _ _ _ _ _
   | exact ih6 _ _ _ _ _ _ _ _ _ _ _ _ _ _ _ _
   | exact ih7 _ _ _ _ _ _
   | exact ih8 _ _ _ _ _ _
   | exact LeO.none _
   | refine LeO.ite ?_ ?_
   | refine LeO.bind ?_ (fun _ => ?_)
set_option maxHeartbeats 8000000 in
set_option maxRecDepth 100000 in
theorem hallmarkref05_Small.calls (k : Nat) (g : Nat) (s0_0 : List (S52)) (s0_1 : List (S54)) (s0_2 : List (S44)) (a1 : Int) (r : Bool) (w0 w : World) (hI : IsS34 w0 w g s0_0 s0_1 s0_2) (hB : Below w0.heap.size w0 w) (h : hallmarkref05_Small.f k s0_0 s0_1 s0_2 a1 = some r) :
  Calls Tryd.prog 12 #[.pointer (some ⟨g, 0, none⟩), .int .i64 a1] w fun e w' => e = .returned (.bool r) ∧ IsS34 w0 w' g s0_0 s0_1 s0_2 ∧ Below w0.heap.size w0 w' ∧ KeepBut w w' g none := by
 have hu59 := Tryd.underlying59
 have HI0 := zm hI
 have HK := zm (KeepBut.refl w g none)
 have HL := zm hB.size
 clear hI
 have HW0 := zm hB.size
 have HB := zm hB
 clear hB
 have H : (hallmarkref05_Small.l0 k a1 (wrap64 ((wrap64 ((s0_0.length : Int) + (s0_1.length : Int))) + (s0_2.length : Int))) 0 s0_0 s0_1 s0_2) = some r := h
 clear h
 have HC3 := zm H
 clear H
 obtain ⟨ASz4_0, cSz4_0, ASz4_1, cSz4_1, ASz4_2, cSz4_2, HGz4, hgz4, HSz4_0, HSz4_1, HSz4_2⟩ := HI0.out
 have hcz4_0 := cellS34_0 HGz4
 have hcz4_1 := cellS34_1 HGz4
 have hcz4_2 := cellS34_2 HGz4
 clear HGz4 hgz4
 go_enter Tryd.func12, Tryd.ntmps12
 go_upto_block 0 with (fail)
 repeat (go_quiet (fail); go_upto_block 0 with (fail))
 go_cut [5] (fun v5 wc => ∃ (kq : Nat) (x5_2 : Int), v5 = .int .i64 x5_2 ∧ Aside0 (hallmarkref05_Small.j1 kq a1 x5_2 s0_0 s0_1 s0_2 = some r) ∧ Aside0 (kq ≤ k) ∧ Aside0 (IsS34 w0 wc g s0_0 s0_1 s0_2) ∧ Aside0 (KeepBut w wc g none) ∧ Aside0 (Below w0.heap.size w0 wc))
 case first =>
  have H := HC3.out
  clear HC3
  have H' := zm H
  clear H
  go_wp2
  repeat (go_quiet (fail); try go_wp2)
  go_loopg [5, 6] k (fun kq v5 v6 w' => ∃ (x5_1 : Int) (x6_1 : Int), v5 = .int .i64 x5_1 ∧ v6 = .int .i64 x6_1 ∧ Aside0 (hallmarkref05_Small.l0 kq a1 x5_1 x6_1 s0_0 s0_1 s0_2 = some r) ∧ Aside0 (kq ≤ k) ∧ Aside0 (IsS34 w0 w' g s0_0 s0_1 s0_2) ∧ Aside0 (KeepBut w w' g none) ∧ Aside0 (Below w0.heap.size w0 w'))
  case atStart => exact ⟨(wrap64 ((wrap64 ((s0_0.length : Int) + (s0_1.length : Int))) + (s0_2.length : Int))), (0), (by first | rfl | (simp; done) | (simp [*]; done) | (simp [*, wrap64]; done) | (simp [*]; unfold wrap64; omega)), (by first | rfl | (simp; done) | (simp [*]; done) | (simp [*, wrap64]; done) | (simp [*]; unfold wrap64; omega)), H', ⟨Nat.le_refl _⟩, ⟨by repeat (first | (with_reducible first | exact HI0.out | apply IsS34.alloc | apply IsS34.drewN | apply IsS34.drew) | exact HI0.out)⟩, ⟨by repeat (first | (with_reducible first | exact HK.out | apply KeepBut.set_ | apply keep_drewN | apply keep_drew | apply keep_alloc) | exact HK.out)⟩, ⟨by repeat (first | (with_reducible first | exact HB.out | apply below_alloc | apply pw_below_drewN | apply below_drew1 | refine below_set ?_ (IsS34.ge HI0.out)) | exact HB.out)⟩⟩
  case round =>
   clear H'
   try clear c1
   try clear p2
   try clear hcz4_0
   try clear hcz4_1
   try clear hcz4_2
   obtain ⟨x5_1, x6_1, rfl, rfl, HA, HK1, HI0, HK, HB⟩ := hrel
   cases gk with
   | zero => exact absurd HA.out (by simp [hallmarkref05_Small.l0])
   | succ k1 =>
    have H := HA.out
    clear HA
    simp only [hallmarkref05_Small.l0] at H
    by_cases c5 : x6_1 < (s0_0.length : Int)
    ·rw [if_pos c5] at H
     have c5b0 : decide (x6_1 < (s0_0.length : Int)) = true := decide_eq_true c5
     clear c5
     (first | rw [c5b0] | (simp only [i64_w, i32_w]; rw [c5b0]) | rw [c5b1] | skip)
     by_cases c6 : x5_1 ≤ a1
     ·rw [if_pos c6] at H
      have c6b0 : decide (x5_1 ≤ a1) = true := decide_eq_true c6
      clear c6
      by_cases c7 : 0 ≤ x6_1
      ·rw [if_pos c7] at H
       have c7b0 : decide (0 ≤ x6_1) = true := decide_eq_true c7
       clear c7
       have H' := zm H
       clear H
       obtain ⟨ASz8_0, cSz8_0, ASz8_1, cSz8_1, ASz8_2, cSz8_2, HGz8, hgz8, HSz8_0, HSz8_1, HSz8_2⟩ := HI0.out
       have hcz8_0 := cellS34_0 HGz8
       have hcz8_1 := cellS34_1 HGz8
       have hcz8_2 := cellS34_2 HGz8
       clear HGz8 hgz8
       have p121 : 0 ≤ (x6_1 : Int) := of_decide_eq_true (by first | (with_reducible assumption) | assumption)
       have q121 : x6_1 < (s0_0.length : Int) := of_decide_eq_true (by first | (with_reducible assumption) | assumption)
       obtain ⟨ad121, A121_0, c121_0, e121, hx121_0, hx121_1, hl121_0, hi121_0⟩ := at_T52 HSz8_0 x6_1 p121 q121
       cases e121
       replace hx121_0 := pw_cell_below HB.out hx121_0
       replace hx121_1 := pw_cell_below HB.out hx121_1
       have HZ121_0 := zm hi121_0
       have HC121_0 := zm hl121_0
       clear hi121_0 hl121_0
       have HR121_0 := zm (Kd.C_below HZ121_0.out HB.out)
       replace p121 := eq_true p121
       replace q121 := eq_true q121
       go_wp2
       repeat (go_quiet (fail); try go_wp2)
       go_roundg k1
       case measure => have := HK1.out; omega
       case rel => exact ⟨(wrap64 (x5_1 + (((rd_T52 s0_0 x6_1).f0).length : Int))), (wrap64 (x6_1 + 1)), (by first | rfl | (simp; done) | (simp [*]; done) | (simp [*, wrap64]; done) | (simp [*]; unfold wrap64; omega)), (by first | rfl | (simp; done) | (simp [*]; done) | (simp [*, wrap64]; done) | (simp [*]; unfold wrap64; omega)), H', ⟨by have := HK1.out; omega⟩, ⟨by repeat (first | (with_reducible first | exact HI0.out | apply IsS34.alloc | apply IsS34.drewN | apply IsS34.drew) | exact HI0.out)⟩, ⟨by repeat (first | (with_reducible first | exact HK.out | apply KeepBut.set_ | apply keep_drewN | apply keep_drew | apply keep_alloc) | exact HK.out)⟩, ⟨by repeat (first | (with_reducible first | exact HB.out | apply below_alloc | apply pw_below_drewN | apply below_drew1 | refine below_set ?_ (IsS34.ge HI0.out)) | exact HB.out)⟩⟩
      ·rw [if_neg c7] at H
       exact absurd H (by simp)
     ·rw [if_neg c6] at H
      have c6b0 : decide (x5_1 ≤ a1) = false := decide_eq_false c6
      clear c6
      have H' := zm H
      clear H
      obtain ⟨ASz9_0, cSz9_0, ASz9_1, cSz9_1, ASz9_2, cSz9_2, HGz9, hgz9, HSz9_0, HSz9_1, HSz9_2⟩ := HI0.out
      have hcz9_0 := cellS34_0 HGz9
      have hcz9_1 := cellS34_1 HGz9
      have hcz9_2 := cellS34_2 HGz9
      clear HGz9 hgz9
      go_wp2
      repeat (go_quiet (fail); try go_wp2)
      go_meet
      case rel => exact ⟨_, (x5_1), (by first | rfl | (simp; done) | (simp [*]; done) | (simp [*, wrap64]; done) | (simp [*]; unfold wrap64; omega)), H', ⟨by have := HK1.out; first | omega | exact Nat.le_refl _⟩, ⟨by repeat (first | (with_reducible first | exact HI0.out | apply IsS34.alloc | apply IsS34.drewN | apply IsS34.drew) | exact HI0.out)⟩, ⟨by repeat (first | (with_reducible first | exact HK.out | apply KeepBut.set_ | apply keep_drewN | apply keep_drew | apply keep_alloc) | exact HK.out)⟩, ⟨by repeat (first | (with_reducible first | exact HB.out | apply below_alloc | apply pw_below_drewN | apply below_drew1 | refine below_set ?_ (IsS34.ge HI0.out)) | exact HB.out)⟩⟩
    ·rw [if_neg c5] at H
     have c5b0 : decide (x6_1 < (s0_0.length : Int)) = false := decide_eq_false c5
     clear c5
     (first | rw [c5b0] | (simp only [i64_w, i32_w]; rw [c5b0]) | rw [c5b1] | skip)
     have H' := zm H
     clear H
     obtain ⟨ASz10_0, cSz10_0, ASz10_1, cSz10_1, ASz10_2, cSz10_2, HGz10, hgz10, HSz10_0, HSz10_1, HSz10_2⟩ := HI0.out
     have hcz10_0 := cellS34_0 HGz10
     have hcz10_1 := cellS34_1 HGz10
     have hcz10_2 := cellS34_2 HGz10
     clear HGz10 hgz10
     go_wp2
     repeat (go_quiet (fail); try go_wp2)
     go_meet
     case rel => exact ⟨_, (x5_1), (by first | rfl | (simp; done) | (simp [*]; done) | (simp [*, wrap64]; done) | (simp [*]; unfold wrap64; omega)), H', ⟨by have := HK1.out; first | omega | exact Nat.le_refl _⟩, ⟨by repeat (first | (with_reducible first | exact HI0.out | apply IsS34.alloc | apply IsS34.drewN | apply IsS34.drew) | exact HI0.out)⟩, ⟨by repeat (first | (with_reducible first | exact HK.out | apply KeepBut.set_ | apply keep_drewN | apply keep_drew | apply keep_alloc) | exact HK.out)⟩, ⟨by repeat (first | (with_reducible first | exact HB.out | apply below_alloc | apply pw_below_drewN | apply below_drew1 | refine below_set ?_ (IsS34.ge HI0.out)) | exact HB.out)⟩⟩
 case rest =>
  clear HC3
  try clear c1
  try clear p1
  try clear q1
  try clear hx1
  try clear p2
  try clear c5
  try clear c5b0
  try clear c6
  try clear c6b0
  try clear p6
  try clear c7
  try clear c7b0
  try clear hcz10_0
  try clear hcz10_1
  try clear hcz10_2
  try clear hcz4_0
  try clear hcz4_1
  try clear hcz4_2
  try clear hcz8_0
  try clear hcz8_1
  try clear hcz8_2
  try clear hcz9_0
  try clear hcz9_1
  try clear hcz9_2
  try clear hx121_0
  try clear hx121_1
  try clear p121
  try clear p2
  try clear q121
  obtain ⟨kq, x5_2, rfl, HA, HJ2, HI0, HK, HB⟩ := hcut
  cases kq with
  | zero => exact absurd HA.out (by simp [hallmarkref05_Small.j1])
  | succ kj2 =>
   have H := HA.out
   clear HA
   simp only [hallmarkref05_Small.j1] at H
   have HC11 := zm H
   clear H
   go_upto_block 2 with (fail)
   repeat (go_quiet (fail); go_upto_block 2 with (fail))
   go_cut [5] (fun v5 wc => ∃ (kq : Nat) (x5_10 : Int), v5 = .int .i64 x5_10 ∧ Aside0 (hallmarkref05_Small.j3 kq a1 x5_10 s0_0 s0_1 s0_2 = some r) ∧ Aside0 (kq ≤ kj2) ∧ Aside0 (IsS34 w0 wc g s0_0 s0_1 s0_2) ∧ Aside0 (KeepBut w wc g none) ∧ Aside0 (Below w0.heap.size w0 wc))
   case first =>
    have H := HC11.out
    clear HC11
    have H' := zm H
    clear H
    go_wp2
    repeat (go_quiet (fail); try go_wp2)
    go_loopg [5, 7] kj2 (fun kq v5 v7 w' => ∃ (x5_2 : Int) (x7_2 : Int), v5 = .int .i64 x5_2 ∧ v7 = .int .i64 x7_2 ∧ Aside0 (hallmarkref05_Small.l1 kq a1 x5_2 x7_2 s0_0 s0_1 s0_2 = some r) ∧ Aside0 (kq ≤ kj2) ∧ Aside0 (IsS34 w0 w' g s0_0 s0_1 s0_2) ∧ Aside0 (KeepBut w w' g none) ∧ Aside0 (Below w0.heap.size w0 w'))
    case atStart => exact ⟨(x5_2), (0), (by first | rfl | (simp; done) | (simp [*]; done) | (simp [*, wrap64]; done) | (simp [*]; unfold wrap64; omega)), (by first | rfl | (simp; done) | (simp [*]; done) | (simp [*, wrap64]; done) | (simp [*]; unfold wrap64; omega)), H', ⟨Nat.le_refl _⟩, ⟨by repeat (first | (with_reducible first | exact HI0.out | apply IsS34.alloc | apply IsS34.drewN | apply IsS34.drew) | exact HI0.out)⟩, ⟨by repeat (first | (with_reducible first | exact HK.out | apply KeepBut.set_ | apply keep_drewN | apply keep_drew | apply keep_alloc) | exact HK.out)⟩, ⟨by repeat (first | (with_reducible first | exact HB.out | apply below_alloc | apply pw_below_drewN | apply below_drew1 | refine below_set ?_ (IsS34.ge HI0.out)) | exact HB.out)⟩⟩
    case round =>
     clear H'
     try clear c1
     try clear p1
     try clear q1
     try clear hx1
     try clear p2
     try clear c5
     try clear c5b0
     try clear c6
     try clear c6b0
     try clear p6
     try clear c7
     try clear c7b0
     try clear hcz10_0
     try clear hcz10_1
     try clear hcz10_2
     try clear hcz4_0
     try clear hcz4_1
     try clear hcz4_2
     try clear hcz8_0
     try clear hcz8_1
     try clear hcz8_2
     try clear hcz9_0
     try clear hcz9_1
     try clear hcz9_2
     try clear hx121_0
     try clear hx121_1
     try clear p1
     try clear p121
     try clear p2
     try clear p6
     try clear q1
     try clear q121
     obtain ⟨x5_2, x7_2, rfl, rfl, HA, HK2, HI0, HK, HB⟩ := hrel
     cases gk with
     | zero => exact absurd HA.out (by simp [hallmarkref05_Small.l1])
     | succ k2 =>
      have H := HA.out
      clear HA
      simp only [hallmarkref05_Small.l1] at H
      by_cases c12 : x7_2 < (s0_1.length : Int)
      ·rw [if_pos c12] at H
       have c12b0 : decide (x7_2 < (s0_1.length : Int)) = true := decide_eq_true c12
       clear c12
       (first | rw [c12b0] | (simp only [i64_w, i32_w]; rw [c12b0]) | rw [c12b1] | skip)
       by_cases c13 : x5_2 ≤ a1
       ·rw [if_pos c13] at H
        have c13b0 : decide (x5_2 ≤ a1) = true := decide_eq_true c13
        clear c13
        by_cases c14 : 0 ≤ x7_2
        ·rw [if_pos c14] at H
         have c14b0 : decide (0 ≤ x7_2) = true := decide_eq_true c14
         clear c14
         have H' := zm H
         clear H
         obtain ⟨ASz15_0, cSz15_0, ASz15_1, cSz15_1, ASz15_2, cSz15_2, HGz15, hgz15, HSz15_0, HSz15_1, HSz15_2⟩ := HI0.out
         have hcz15_0 := cellS34_0 HGz15
         have hcz15_1 := cellS34_1 HGz15
         have hcz15_2 := cellS34_2 HGz15
         clear HGz15 hgz15
         have p122 : 0 ≤ (x7_2 : Int) := of_decide_eq_true (by first | (with_reducible assumption) | assumption)
         have q122 : x7_2 < (s0_1.length : Int) := of_decide_eq_true (by first | (with_reducible assumption) | assumption)
         obtain ⟨ad122, A122_0, c122_0, A122_1, c122_1, e122, hx122_0, hx122_1, hl122_0, hi122_0, hl122_1, hi122_1⟩ := at_T54 HSz15_1 x7_2 p122 q122
         cases e122
         replace hx122_0 := pw_cell_below HB.out hx122_0
         replace hx122_1 := pw_cell_below HB.out hx122_1
         have HZ122_0 := zm hi122_0
         have HC122_0 := zm hl122_0
         clear hi122_0 hl122_0
         have HR122_0 := zm (Kd.C_below HZ122_0.out HB.out)
         have HZ122_1 := zm hi122_1
         have HC122_1 := zm hl122_1
         clear hi122_1 hl122_1
         have HR122_1 := zm (Kd.C_below HZ122_1.out HB.out)
         replace p122 := eq_true p122
         replace q122 := eq_true q122
         have p123 : 0 ≤ (x7_2 : Int) := of_decide_eq_true (by first | (with_reducible assumption) | assumption)
         have q123 : x7_2 < (s0_1.length : Int) := of_decide_eq_true (by first | (with_reducible assumption) | assumption)
         obtain ⟨ad123, A123_0, c123_0, A123_1, c123_1, e123, hx123_0, hx123_1, hl123_0, hi123_0, hl123_1, hi123_1⟩ := at_T54 HSz15_1 x7_2 p123 q123
         obtain rfl : ad122 = ad123 := (by injection e123)
         replace hx123_0 := pw_cell_below HB.out hx123_0
         replace hx123_1 := pw_cell_below HB.out hx123_1
         have HZ123_0 := zm hi123_0
         have HC123_0 := zm hl123_0
         clear hi123_0 hl123_0
         have HR123_0 := zm (Kd.C_below HZ123_0.out HB.out)
         have HZ123_1 := zm hi123_1
         have HC123_1 := zm hl123_1
         clear hi123_1 hl123_1
         have HR123_1 := zm (Kd.C_below HZ123_1.out HB.out)
         replace p123 := eq_true p123
         replace q123 := eq_true q123
         have ea_ := Option.some.inj (hx122_0.symm.trans hx123_0)
         injection ea_ with ea_ en_ ec_
         subst ea_
         subst ec_
         clear en_
         have ea_ := Option.some.inj (hx122_1.symm.trans hx123_1)
         injection ea_ with ea_ en_ ec_
         subst ea_
         subst ec_
         clear en_
         go_wp2
         repeat (go_quiet (fail); try go_wp2)
         go_roundg k2
         case measure => have := HJ2.out; have := HK2.out; omega
         case rel => exact ⟨(wrap64 ((wrap64 (x5_2 + (((rd_T54 s0_1 x7_2).f0).length : Int))) + (((rd_T54 s0_1 x7_2).f1).length : Int))), (wrap64 (x7_2 + 1)), (by first | rfl | (simp; done) | (simp [*]; done) | (simp [*, wrap64]; done) | (simp [*]; unfold wrap64; omega)), (by first | rfl | (simp; done) | (simp [*]; done) | (simp [*, wrap64]; done) | (simp [*]; unfold wrap64; omega)), H', ⟨by have := HJ2.out; have := HK2.out; omega⟩, ⟨by repeat (first | (with_reducible first | exact HI0.out | apply IsS34.alloc | apply IsS34.drewN | apply IsS34.drew) | exact HI0.out)⟩, ⟨by repeat (first | (with_reducible first | exact HK.out | apply KeepBut.set_ | apply keep_drewN | apply keep_drew | apply keep_alloc) | exact HK.out)⟩, ⟨by repeat (first | (with_reducible first | exact HB.out | apply below_alloc | apply pw_below_drewN | apply below_drew1 | refine below_set ?_ (IsS34.ge HI0.out)) | exact HB.out)⟩⟩
        ·rw [if_neg c14] at H
         exact absurd H (by simp)
       ·rw [if_neg c13] at H
        have c13b0 : decide (x5_2 ≤ a1) = false := decide_eq_false c13
        clear c13
        have H' := zm H
        clear H
        obtain ⟨ASz16_0, cSz16_0, ASz16_1, cSz16_1, ASz16_2, cSz16_2, HGz16, hgz16, HSz16_0, HSz16_1, HSz16_2⟩ := HI0.out
        have hcz16_0 := cellS34_0 HGz16
        have hcz16_1 := cellS34_1 HGz16
        have hcz16_2 := cellS34_2 HGz16
        clear HGz16 hgz16
        go_wp2
        repeat (go_quiet (fail); try go_wp2)
        go_meet
        case rel => exact ⟨_, (x5_2), (by first | rfl | (simp; done) | (simp [*]; done) | (simp [*, wrap64]; done) | (simp [*]; unfold wrap64; omega)), H', ⟨by have := HJ2.out; have := HK2.out; first | omega | exact Nat.le_refl _⟩, ⟨by repeat (first | (with_reducible first | exact HI0.out | apply IsS34.alloc | apply IsS34.drewN | apply IsS34.drew) | exact HI0.out)⟩, ⟨by repeat (first | (with_reducible first | exact HK.out | apply KeepBut.set_ | apply keep_drewN | apply keep_drew | apply keep_alloc) | exact HK.out)⟩, ⟨by repeat (first | (with_reducible first | exact HB.out | apply below_alloc | apply pw_below_drewN | apply below_drew1 | refine below_set ?_ (IsS34.ge HI0.out)) | exact HB.out)⟩⟩
      ·rw [if_neg c12] at H
       have c12b0 : decide (x7_2 < (s0_1.length : Int)) = false := decide_eq_false c12
       clear c12
       (first | rw [c12b0] | (simp only [i64_w, i32_w]; rw [c12b0]) | rw [c12b1] | skip)
       have H' := zm H
       clear H
       obtain ⟨ASz17_0, cSz17_0, ASz17_1, cSz17_1, ASz17_2, cSz17_2, HGz17, hgz17, HSz17_0, HSz17_1, HSz17_2⟩ := HI0.out
       have hcz17_0 := cellS34_0 HGz17
       have hcz17_1 := cellS34_1 HGz17
       have hcz17_2 := cellS34_2 HGz17
       clear HGz17 hgz17
       go_wp2
       repeat (go_quiet (fail); try go_wp2)
       go_meet
       case rel => exact ⟨_, (x5_2), (by first | rfl | (simp; done) | (simp [*]; done) | (simp [*, wrap64]; done) | (simp [*]; unfold wrap64; omega)), H', ⟨by have := HJ2.out; have := HK2.out; first | omega | exact Nat.le_refl _⟩, ⟨by repeat (first | (with_reducible first | exact HI0.out | apply IsS34.alloc | apply IsS34.drewN | apply IsS34.drew) | exact HI0.out)⟩, ⟨by repeat (first | (with_reducible first | exact HK.out | apply KeepBut.set_ | apply keep_drewN | apply keep_drew | apply keep_alloc) | exact HK.out)⟩, ⟨by repeat (first | (with_reducible first | exact HB.out | apply below_alloc | apply pw_below_drewN | apply below_drew1 | refine below_set ?_ (IsS34.ge HI0.out)) | exact HB.out)⟩⟩
   case rest =>
    clear HC11
    try clear c1
    try clear p1
    try clear q1
    try clear hx1
    try clear p2
    try clear c5
    try clear c5b0
    try clear c6
    try clear c6b0
    try clear p6
    try clear c7
    try clear c7b0
    try clear c12
    try clear c12b0
    try clear p12
    try clear q12
    try clear hx12
    try clear c13
    try clear c13b0
    try clear c14
    try clear c14b0
    try clear hcz10_0
    try clear hcz10_1
    try clear hcz10_2
    try clear hcz15_0
    try clear hcz15_1
    try clear hcz15_2
    try clear hcz16_0
    try clear hcz16_1
    try clear hcz16_2
    try clear hcz17_0
    try clear hcz17_1
    try clear hcz17_2
    try clear hcz4_0
    try clear hcz4_1
    try clear hcz4_2
    try clear hcz8_0
    try clear hcz8_1
    try clear hcz8_2
    try clear hcz9_0
    try clear hcz9_1
    try clear hcz9_2
    try clear hx121_0
    try clear hx121_1
    try clear hx122_0
    try clear hx122_1
    try clear hx123_0
    try clear hx123_1
    try clear p1
    try clear p121
    try clear p122
    try clear p123
    try clear p2
    try clear p6
    try clear q1
    try clear q121
    try clear q122
    try clear q123
    obtain ⟨kq, x5_10, rfl, HA, HJ10, HI0, HK, HB⟩ := hcut
    cases kq with
    | zero => exact absurd HA.out (by simp [hallmarkref05_Small.j3])
    | succ kj10 =>
     have H := HA.out
     clear HA
     simp only [hallmarkref05_Small.j3] at H
     have H' := zm H
     clear H
     go_wp2
     repeat (go_quiet (fail); try go_wp2)
     go_loopg [5, 8] kj10 (fun kq v5 v8 w' => ∃ (x5_3 : Int) (x8_3 : Int), v5 = .int .i64 x5_3 ∧ v8 = .int .i64 x8_3 ∧ Aside0 (hallmarkref05_Small.l2 kq a1 x5_3 x8_3 s0_0 s0_1 s0_2 = some r) ∧ Aside0 (kq ≤ kj10) ∧ Aside0 (IsS34 w0 w' g s0_0 s0_1 s0_2) ∧ Aside0 (KeepBut w w' g none) ∧ Aside0 (Below w0.heap.size w0 w'))
     case atStart => exact ⟨(x5_10), (0), (by first | rfl | (simp; done) | (simp [*]; done) | (simp [*, wrap64]; done) | (simp [*]; unfold wrap64; omega)), (by first | rfl | (simp; done) | (simp [*]; done) | (simp [*, wrap64]; done) | (simp [*]; unfold wrap64; omega)), H', ⟨Nat.le_refl _⟩, ⟨by repeat (first | (with_reducible first | exact HI0.out | apply IsS34.alloc | apply IsS34.drewN | apply IsS34.drew) | exact HI0.out)⟩, ⟨by repeat (first | (with_reducible first | exact HK.out | apply KeepBut.set_ | apply keep_drewN | apply keep_drew | apply keep_alloc) | exact HK.out)⟩, ⟨by repeat (first | (with_reducible first | exact HB.out | apply below_alloc | apply pw_below_drewN | apply below_drew1 | refine below_set ?_ (IsS34.ge HI0.out)) | exact HB.out)⟩⟩
     case round =>
      clear H'
      try clear c1
      try clear p1
      try clear q1
      try clear hx1
      try clear p2
      try clear c5
      try clear c5b0
      try clear c6
      try clear c6b0
      try clear p6
      try clear c7
      try clear c7b0
      try clear c12
      try clear c12b0
      try clear p12
      try clear q12
      try clear hx12
      try clear c13
      try clear c13b0
      try clear c14
      try clear c14b0
      try clear hcz10_0
      try clear hcz10_1
      try clear hcz10_2
      try clear hcz15_0
      try clear hcz15_1
      try clear hcz15_2
      try clear hcz16_0
      try clear hcz16_1
      try clear hcz16_2
      try clear hcz17_0
      try clear hcz17_1
      try clear hcz17_2
      try clear hcz4_0
      try clear hcz4_1
      try clear hcz4_2
      try clear hcz8_0
      try clear hcz8_1
      try clear hcz8_2
      try clear hcz9_0
      try clear hcz9_1
      try clear hcz9_2
      try clear hx121_0
      try clear hx121_1
      try clear hx122_0
      try clear hx122_1
      try clear hx123_0
      try clear hx123_1
      try clear p1
      try clear p12
      try clear p121
      try clear p122
      try clear p123
      try clear p2
      try clear p6
      try clear q1
      try clear q12
      try clear q121
      try clear q122
      try clear q123
      obtain ⟨x5_3, x8_3, rfl, rfl, HA, HK3, HI0, HK, HB⟩ := hrel
      cases gk with
      | zero => exact absurd HA.out (by simp [hallmarkref05_Small.l2])
      | succ k3 =>
       have H := HA.out
       clear HA
       simp only [hallmarkref05_Small.l2] at H
       have HC18 := zm H
       clear H
       go_upto_region 13 with (fail)
       repeat (go_quiet (fail); go_upto_region 13 with (fail))
       go_cut [102] (fun v102 wc => ∃ (kq : Nat) (x102_17 : Bool), v102 = .bool x102_17 ∧ Aside0 (hallmarkref05_Small.j5 kq a1 x5_3 x8_3 x102_17 s0_0 s0_1 s0_2 = some r) ∧ Aside0 (kq ≤ k3) ∧ Aside0 (IsS34 w0 wc g s0_0 s0_1 s0_2) ∧ Aside0 (KeepBut w wc g none) ∧ Aside0 (Below w0.heap.size w0 wc))
       case first =>
        have H := HC18.out
        clear HC18
        by_cases c19 : x8_3 < (s0_2.length : Int)
        ·rw [if_pos c19] at H
         have c19b0 : decide (x8_3 < (s0_2.length : Int)) = true := decide_eq_true c19
         clear c19
         (first | rw [c19b0] | (simp only [i64_w, i32_w]; rw [c19b0]) | rw [c19b1] | skip)
         have H' := zm H
         clear H
         obtain ⟨ASz20_0, cSz20_0, ASz20_1, cSz20_1, ASz20_2, cSz20_2, HGz20, hgz20, HSz20_0, HSz20_1, HSz20_2⟩ := HI0.out
         have hcz20_0 := cellS34_0 HGz20
         have hcz20_1 := cellS34_1 HGz20
         have hcz20_2 := cellS34_2 HGz20
         clear HGz20 hgz20
         go_wp2
         repeat (go_quiet (fail); try go_wp2)
         go_meet
         case rel => exact ⟨_, (decide (x5_3 ≤ a1)), (by first | rfl | (simp; done) | (simp [*]; done) | (simp [*, wrap64]; done) | (simp [*]; unfold wrap64; omega)), H', ⟨by have := HJ2.out; have := HJ10.out; have := HK3.out; first | omega | exact Nat.le_refl _⟩, ⟨by repeat (first | (with_reducible first | exact HI0.out | apply IsS34.alloc | apply IsS34.drewN | apply IsS34.drew) | exact HI0.out)⟩, ⟨by repeat (first | (with_reducible first | exact HK.out | apply KeepBut.set_ | apply keep_drewN | apply keep_drew | apply keep_alloc) | exact HK.out)⟩, ⟨by repeat (first | (with_reducible first | exact HB.out | apply below_alloc | apply pw_below_drewN | apply below_drew1 | refine below_set ?_ (IsS34.ge HI0.out)) | exact HB.out)⟩⟩
        ·rw [if_neg c19] at H
         have c19b0 : decide (x8_3 < (s0_2.length : Int)) = false := decide_eq_false c19
         clear c19
         (first | rw [c19b0] | (simp only [i64_w, i32_w]; rw [c19b0]) | rw [c19b1] | skip)
         have H' := zm H
         clear H
         obtain ⟨ASz21_0, cSz21_0, ASz21_1, cSz21_1, ASz21_2, cSz21_2, HGz21, hgz21, HSz21_0, HSz21_1, HSz21_2⟩ := HI0.out
         have hcz21_0 := cellS34_0 HGz21
         have hcz21_1 := cellS34_1 HGz21
         have hcz21_2 := cellS34_2 HGz21
         clear HGz21 hgz21
         go_wp2
         repeat (go_quiet (fail); try go_wp2)
         go_meet
         case rel => exact ⟨_, (false), (by first | rfl | (simp; done) | (simp [*]; done) | (simp [*, wrap64]; done) | (simp [*]; unfold wrap64; omega)), H', ⟨by have := HJ2.out; have := HJ10.out; have := HK3.out; first | omega | exact Nat.le_refl _⟩, ⟨by repeat (first | (with_reducible first | exact HI0.out | apply IsS34.alloc | apply IsS34.drewN | apply IsS34.drew) | exact HI0.out)⟩, ⟨by repeat (first | (with_reducible first | exact HK.out | apply KeepBut.set_ | apply keep_drewN | apply keep_drew | apply keep_alloc) | exact HK.out)⟩, ⟨by repeat (first | (with_reducible first | exact HB.out | apply below_alloc | apply pw_below_drewN | apply below_drew1 | refine below_set ?_ (IsS34.ge HI0.out)) | exact HB.out)⟩⟩
       case rest =>
        clear HC18
        try clear c1
        try clear p1
        try clear q1
        try clear hx1
        try clear p2
        try clear c5
        try clear c5b0
        try clear c6
        try clear c6b0
        try clear p6
        try clear c7
        try clear c7b0
        try clear c12
        try clear c12b0
        try clear p12
        try clear q12
        try clear hx12
        try clear c13
        try clear c13b0
        try clear c14
        try clear c14b0
        try clear c19
        try clear c19b0
        try clear hcz10_0
        try clear hcz10_1
        try clear hcz10_2
        try clear hcz15_0
        try clear hcz15_1
        try clear hcz15_2
        try clear hcz16_0
        try clear hcz16_1
        try clear hcz16_2
        try clear hcz17_0
        try clear hcz17_1
        try clear hcz17_2
        try clear hcz20_0
        try clear hcz20_1
        try clear hcz20_2
        try clear hcz21_0
        try clear hcz21_1
        try clear hcz21_2
        try clear hcz4_0
        try clear hcz4_1
        try clear hcz4_2
        try clear hcz8_0
        try clear hcz8_1
        try clear hcz8_2
        try clear hcz9_0
        try clear hcz9_1
        try clear hcz9_2
        try clear hx121_0
        try clear hx121_1
        try clear hx122_0
        try clear hx122_1
        try clear hx123_0
        try clear hx123_1
        try clear p1
        try clear p12
        try clear p121
        try clear p122
        try clear p123
        try clear p2
        try clear p6
        try clear q1
        try clear q12
        try clear q121
        try clear q122
        try clear q123
        obtain ⟨kq, x102_17, rfl, HA, HJ17, HI0, HK, HB⟩ := hcut
        cases kq with
        | zero => exact absurd HA.out (by simp [hallmarkref05_Small.j5])
        | succ kj17 =>
         have H := HA.out
         clear HA
         simp only [hallmarkref05_Small.j5] at H
         by_cases c22 : x102_17 = true
         ·subst c22
          have H1 : (if 0 ≤ x8_3 then (if x8_3 < (s0_2.length : Int) then (hallmarkref05_Small.l3 kj17 a1 (wrap64 (x5_3 + (((rd_T44 s0_2 x8_3).f1).length : Int))) x8_3 0 s0_0 s0_1 s0_2) else (none)) else (none)) = some r := by rw [if_pos rfl] at H; exact H
          clear H
          have H := H1
          clear H1
          by_cases c23 : 0 ≤ x8_3
          ·rw [if_pos c23] at H
           have c23b0 : decide (0 ≤ x8_3) = true := decide_eq_true c23
           clear c23
           by_cases c24 : x8_3 < (s0_2.length : Int)
           ·rw [if_pos c24] at H
            have c24b0 : decide (x8_3 < (s0_2.length : Int)) = true := decide_eq_true c24
            clear c24
            have H' := zm H
            clear H
            obtain ⟨ASz25_0, cSz25_0, ASz25_1, cSz25_1, ASz25_2, cSz25_2, HGz25, hgz25, HSz25_0, HSz25_1, HSz25_2⟩ := HI0.out
            have hcz25_0 := cellS34_0 HGz25
            have hcz25_1 := cellS34_1 HGz25
            have hcz25_2 := cellS34_2 HGz25
            clear HGz25 hgz25
            have p124 : 0 ≤ (x8_3 : Int) := of_decide_eq_true (by first | (with_reducible assumption) | assumption)
            have q124 : x8_3 < (s0_2.length : Int) := of_decide_eq_true (by first | (with_reducible assumption) | assumption)
            obtain ⟨ad124, A124_1, c124_1, e124, hx124_0, hx124_1, hl124_1, hi124_1⟩ := at_T44 HSz25_2 x8_3 p124 q124
            cases e124
            replace hx124_0 := pw_cell_below HB.out hx124_0
            replace hx124_1 := pw_cell_below HB.out hx124_1
            have HZ124_1 := zm hi124_1
            have HC124_1 := zm hl124_1
            clear hi124_1 hl124_1
            have HR124_1 := zm (Kd.C_below HZ124_1.out HB.out)
            replace p124 := eq_true p124
            replace q124 := eq_true q124
            go_wp2
            repeat (go_quiet (fail); try go_wp2)
            go_loopg [5, 9] kj17 (fun kq v5 v9 w' => ∃ (x5_5 : Int) (x9_5 : Int), v5 = .int .i64 x5_5 ∧ v9 = .int .i64 x9_5 ∧ Aside0 (hallmarkref05_Small.l3 kq a1 x5_5 x8_3 x9_5 s0_0 s0_1 s0_2 = some r) ∧ Aside0 (kq ≤ kj17) ∧ Aside0 (Kd.C k59 w' A124_1 ((rd_T44 s0_2 x8_3).f1).length ((rd_T44 s0_2 x8_3).f1)) ∧ Aside0 (IsS34 w0 w' g s0_0 s0_1 s0_2) ∧ Aside0 (KeepBut w w' g none) ∧ Aside0 (Below w0.heap.size w0 w'))
            case atStart => exact ⟨(wrap64 (x5_3 + (((rd_T44 s0_2 x8_3).f1).length : Int))), (0), (by first | rfl | (simp; done) | (simp [*]; done) | (simp [*, wrap64]; done) | (simp [*]; unfold wrap64; omega)), (by first | rfl | (simp; done) | (simp [*]; done) | (simp [*, wrap64]; done) | (simp [*]; unfold wrap64; omega)), H', ⟨Nat.le_refl _⟩, ⟨by repeat (first | (with_reducible exact HR124_1.out) | (with_reducible refine Kd.C_alloc ?_ _) | (with_reducible refine Kd.C_drewN ?_ _) | (with_reducible refine Kd.C_drew ?_) | exact HR124_1.out)⟩, ⟨by repeat (first | (with_reducible first | exact HI0.out | apply IsS34.alloc | apply IsS34.drewN | apply IsS34.drew) | exact HI0.out)⟩, ⟨by repeat (first | (with_reducible first | exact HK.out | apply KeepBut.set_ | apply keep_drewN | apply keep_drew | apply keep_alloc) | exact HK.out)⟩, ⟨by repeat (first | (with_reducible first | exact HB.out | apply below_alloc | apply pw_below_drewN | apply below_drew1 | refine below_set ?_ (IsS34.ge HI0.out)) | exact HB.out)⟩⟩
            case round =>
             clear H'
             try clear c1
             try clear p1
             try clear q1
             try clear hx1
             try clear c2
             try clear p2
             try clear c5
             try clear c5b0
             try clear c6
             try clear c6b0
             try clear p6
             try clear c7
             try clear c7b0
             try clear c12
             try clear c12b0
             try clear p12
             try clear q12
             try clear hx12
             try clear c13
             try clear c13b0
             try clear c14
             try clear c14b0
             try clear c19
             try clear c19b0
             try clear c22
             try clear c23
             try clear c23b0
             try clear c24
             try clear c24b0
             try clear hcz10_0
             try clear hcz10_1
             try clear hcz10_2
             try clear hcz15_0
             try clear hcz15_1
             try clear hcz15_2
             try clear hcz16_0
             try clear hcz16_1
             try clear hcz16_2
             try clear hcz17_0
             try clear hcz17_1
             try clear hcz17_2
             try clear hcz20_0
             try clear hcz20_1
             try clear hcz20_2
             try clear hcz21_0
             try clear hcz21_1
             try clear hcz21_2
             try clear hcz25_0
             try clear hcz25_1
             try clear hcz25_2
             try clear hcz4_0
             try clear hcz4_1
             try clear hcz4_2
             try clear hcz8_0
             try clear hcz8_1
             try clear hcz8_2
             try clear hcz9_0
             try clear hcz9_1
             try clear hcz9_2
             try clear hx121_0
             try clear hx121_1
             try clear hx122_0
             try clear hx122_1
             try clear hx123_0
             try clear hx123_1
             try clear hx124_0
             try clear hx124_1
             try clear p1
             try clear p12
             try clear p121
             try clear p122
             try clear p123
             try clear p124
             try clear p2
             try clear p6
             try clear q1
             try clear q12
             try clear q121
             try clear q122
             try clear q123
             try clear q124
             obtain ⟨x5_5, x9_5, rfl, rfl, HA, HK5, HR124_1, HI0, HK, HB⟩ := hrel
             cases gk with
             | zero => exact absurd HA.out (by simp [hallmarkref05_Small.l3])
             | succ k5 =>
              have H := HA.out
              clear HA
              simp only [hallmarkref05_Small.l3] at H
              have HC26 := zm H
              clear H
              go_upto_region 17 with (fail)
              repeat (go_quiet (fail); go_upto_region 17 with (fail))
              go_cut [131] (fun v131 wc => ∃ (kq : Nat) (x131_25 : Bool), v131 = .bool x131_25 ∧ Aside0 (hallmarkref05_Small.j7 kq a1 x5_5 x8_3 x9_5 x131_25 s0_0 s0_1 s0_2 = some r) ∧ Aside0 (kq ≤ k5) ∧ Aside0 (Kd.C k59 wc A124_1 ((rd_T44 s0_2 x8_3).f1).length ((rd_T44 s0_2 x8_3).f1)) ∧ Aside0 (IsS34 w0 wc g s0_0 s0_1 s0_2) ∧ Aside0 (KeepBut w wc g none) ∧ Aside0 (Below w0.heap.size w0 wc))
              case first =>
               have H := HC26.out
               clear HC26
               by_cases c27 : 0 ≤ x8_3
               ·rw [if_pos c27] at H
                have c27b0 : decide (0 ≤ x8_3) = true := decide_eq_true c27
                clear c27
                (first | rw [c27b0] | (simp only [i64_w, i32_w]; rw [c27b0]) | rw [c27b1] | skip)
                by_cases c28 : x8_3 < (s0_2.length : Int)
                ·rw [if_pos c28] at H
                 have c28b0 : decide (x8_3 < (s0_2.length : Int)) = true := decide_eq_true c28
                 clear c28
                 by_cases c29 : x9_5 < (((rd_T44 s0_2 x8_3).f1).length : Int)
                 ·rw [if_pos c29] at H
                  have c29b0 : decide (x9_5 < (((rd_T44 s0_2 x8_3).f1).length : Int)) = true := decide_eq_true c29
                  clear c29
                  have H' := zm H
                  clear H
                  obtain ⟨ASz30_0, cSz30_0, ASz30_1, cSz30_1, ASz30_2, cSz30_2, HGz30, hgz30, HSz30_0, HSz30_1, HSz30_2⟩ := HI0.out
                  have hcz30_0 := cellS34_0 HGz30
                  have hcz30_1 := cellS34_1 HGz30
                  have hcz30_2 := cellS34_2 HGz30
                  clear HGz30 hgz30
                  have p125 : 0 ≤ (x8_3 : Int) := of_decide_eq_true (by first | (with_reducible assumption) | assumption)
                  have q125 : x8_3 < (s0_2.length : Int) := of_decide_eq_true (by first | (with_reducible assumption) | assumption)
                  obtain ⟨ad125, A125_1, c125_1, e125, hx125_0, hx125_1, hl125_1, hi125_1⟩ := at_T44 HSz30_2 x8_3 p125 q125
                  cases e125
                  replace hx125_0 := pw_cell_below HB.out hx125_0
                  replace hx125_1 := pw_cell_below HB.out hx125_1
                  have HZ125_1 := zm hi125_1
                  have HC125_1 := zm hl125_1
                  clear hi125_1 hl125_1
                  have HR125_1 := zm (Kd.C_below HZ125_1.out HB.out)
                  replace p125 := eq_true p125
                  replace q125 := eq_true q125
                  go_wp2
                  repeat (go_quiet (fail); try go_wp2)
                  go_meet
                  case rel => exact ⟨_, (decide (x5_5 ≤ a1)), (by first | rfl | (simp; done) | (simp [*]; done) | (simp [*, wrap64]; done) | (simp [*]; unfold wrap64; omega)), H', ⟨by have := HJ2.out; have := HJ10.out; have := HK3.out; have := HJ17.out; have := HK5.out; first | omega | exact Nat.le_refl _⟩, ⟨by repeat (first | (with_reducible exact HR124_1.out) | (with_reducible refine Kd.C_alloc ?_ _) | (with_reducible refine Kd.C_drewN ?_ _) | (with_reducible refine Kd.C_drew ?_) | exact HR124_1.out)⟩, ⟨by repeat (first | (with_reducible first | exact HI0.out | apply IsS34.alloc | apply IsS34.drewN | apply IsS34.drew) | exact HI0.out)⟩, ⟨by repeat (first | (with_reducible first | exact HK.out | apply KeepBut.set_ | apply keep_drewN | apply keep_drew | apply keep_alloc) | exact HK.out)⟩, ⟨by repeat (first | (with_reducible first | exact HB.out | apply below_alloc | apply pw_below_drewN | apply below_drew1 | refine below_set ?_ (IsS34.ge HI0.out)) | exact HB.out)⟩⟩
                 ·rw [if_neg c29] at H
                  have c29b0 : decide (x9_5 < (((rd_T44 s0_2 x8_3).f1).length : Int)) = false := decide_eq_false c29
                  clear c29
                  have H' := zm H
                  clear H
                  obtain ⟨ASz31_0, cSz31_0, ASz31_1, cSz31_1, ASz31_2, cSz31_2, HGz31, hgz31, HSz31_0, HSz31_1, HSz31_2⟩ := HI0.out
                  have hcz31_0 := cellS34_0 HGz31
                  have hcz31_1 := cellS34_1 HGz31
                  have hcz31_2 := cellS34_2 HGz31
                  clear HGz31 hgz31
                  have p125 : 0 ≤ (x8_3 : Int) := of_decide_eq_true (by first | (with_reducible assumption) | assumption)
                  have q125 : x8_3 < (s0_2.length : Int) := of_decide_eq_true (by first | (with_reducible assumption) | assumption)
                  obtain ⟨ad125, A125_1, c125_1, e125, hx125_0, hx125_1, hl125_1, hi125_1⟩ := at_T44 HSz31_2 x8_3 p125 q125
                  cases e125
                  replace hx125_0 := pw_cell_below HB.out hx125_0
                  replace hx125_1 := pw_cell_below HB.out hx125_1
                  have HZ125_1 := zm hi125_1
                  have HC125_1 := zm hl125_1
                  clear hi125_1 hl125_1
                  have HR125_1 := zm (Kd.C_below HZ125_1.out HB.out)
                  replace p125 := eq_true p125
                  replace q125 := eq_true q125
                  go_wp2
                  repeat (go_quiet (fail); try go_wp2)
                  go_meet
                  case rel => exact ⟨_, (false), (by first | rfl | (simp; done) | (simp [*]; done) | (simp [*, wrap64]; done) | (simp [*]; unfold wrap64; omega)), H', ⟨by have := HJ2.out; have := HJ10.out; have := HK3.out; have := HJ17.out; have := HK5.out; first | omega | exact Nat.le_refl _⟩, ⟨by repeat (first | (with_reducible exact HR124_1.out) | (with_reducible refine Kd.C_alloc ?_ _) | (with_reducible refine Kd.C_drewN ?_ _) | (with_reducible refine Kd.C_drew ?_) | exact HR124_1.out)⟩, ⟨by repeat (first | (with_reducible first | exact HI0.out | apply IsS34.alloc | apply IsS34.drewN | apply IsS34.drew) | exact HI0.out)⟩, ⟨by repeat (first | (with_reducible first | exact HK.out | apply KeepBut.set_ | apply keep_drewN | apply keep_drew | apply keep_alloc) | exact HK.out)⟩, ⟨by repeat (first | (with_reducible first | exact HB.out | apply below_alloc | apply pw_below_drewN | apply below_drew1 | refine below_set ?_ (IsS34.ge HI0.out)) | exact HB.out)⟩⟩
                ·rw [if_neg c28] at H
                 exact absurd H (by simp)
               ·rw [if_neg c27] at H
                exact absurd H (by simp)
              case rest =>
               clear HC26
               try clear c1
               try clear p1
               try clear q1
               try clear hx1
               try clear c2
               try clear p2
               try clear c5
               try clear c5b0
               try clear c6
               try clear c6b0
               try clear p6
               try clear c7
               try clear c7b0
               try clear c12
               try clear c12b0
               try clear p12
               try clear q12
               try clear hx12
               try clear c13
               try clear c13b0
               try clear c14
               try clear c14b0
               try clear c19
               try clear c19b0
               try clear c22
               try clear c23
               try clear c23b0
               try clear c24
               try clear c24b0
               try clear c27
               try clear c27b0
               try clear c28
               try clear c28b0
               try clear c29
               try clear c29b0
               try clear hcz10_0
               try clear hcz10_1
               try clear hcz10_2
               try clear hcz15_0
               try clear hcz15_1
               try clear hcz15_2
               try clear hcz16_0
               try clear hcz16_1
               try clear hcz16_2
               try clear hcz17_0
               try clear hcz17_1
               try clear hcz17_2
               try clear hcz20_0
               try clear hcz20_1
               try clear hcz20_2
               try clear hcz21_0
               try clear hcz21_1
               try clear hcz21_2
               try clear hcz25_0
               try clear hcz25_1
               try clear hcz25_2
               try clear hcz30_0
               try clear hcz30_1
               try clear hcz30_2
               try clear hcz31_0
               try clear hcz31_1
               try clear hcz31_2
               try clear hcz4_0
               try clear hcz4_1
               try clear hcz4_2
               try clear hcz8_0
               try clear hcz8_1
               try clear hcz8_2
               try clear hcz9_0
               try clear hcz9_1
               try clear hcz9_2
               try clear hx121_0
               try clear hx121_1
               try clear hx122_0
               try clear hx122_1
               try clear hx123_0
               try clear hx123_1
               try clear hx124_0
               try clear hx124_1
               try clear hx125_0
               try clear hx125_1
               try clear p1
               try clear p12
               try clear p121
               try clear p122
               try clear p123
               try clear p124
               try clear p125
               try clear p2
               try clear p6
               try clear q1
               try clear q12
               try clear q121
               try clear q122
               try clear q123
               try clear q124
               try clear q125
               obtain ⟨kq, x131_25, rfl, HA, HJ25, HR124_1, HI0, HK, HB⟩ := hcut
               cases kq with
               | zero => exact absurd HA.out (by simp [hallmarkref05_Small.j7])
               | succ kj25 =>
                have H := HA.out
                clear HA
                simp only [hallmarkref05_Small.j7] at H
                by_cases c32 : x131_25 = true
                ·subst c32
                 have H1 : (if 0 ≤ x8_3 then (if x8_3 < (s0_2.length : Int) then (if 0 ≤ x9_5 then (if x9_5 < (((rd_T44 s0_2 x8_3).f1).length : Int) then (hallmarkref05_Small.l4 kj25 a1 (wrap64 ((wrap64 ((wrap64 ((wrap64 (x5_5 + (((rd_T59 ((rd_T44 s0_2 x8_3).f1) x9_5).f0).length : Int))) + (((rd_T59 ((rd_T44 s0_2 x8_3).f1) x9_5).f1).length : Int))) + (((rd_T59 ((rd_T44 s0_2 x8_3).f1) x9_5).f2.f4).length : Int))) + (((rd_T59 ((rd_T44 s0_2 x8_3).f1) x9_5).f2.f5).length : Int))) x8_3 x9_5 0 s0_0 s0_1 s0_2 ((rd_T59 ((rd_T44 s0_2 x8_3).f1) x9_5).f0) ((rd_T59 ((rd_T44 s0_2 x8_3).f1) x9_5).f1) ((rd_T59 ((rd_T44 s0_2 x8_3).f1) x9_5).f2.f0) ((rd_T59 ((rd_T44 s0_2 x8_3).f1) x9_5).f2.f1) ((rd_T59 ((rd_T44 s0_2 x8_3).f1) x9_5).f2.f2) ((rd_T59 ((rd_T44 s0_2 x8_3).f1) x9_5).f2.f3) ((rd_T59 ((rd_T44 s0_2 x8_3).f1) x9_5).f2.f4) ((rd_T59 ((rd_T44 s0_2 x8_3).f1) x9_5).f2.f5)) else (none)) else (none)) else (none)) else (none)) = some r := by rw [if_pos rfl] at H; exact H
                 clear H
                 have H := H1
                 clear H1
                 by_cases c33 : 0 ≤ x8_3
                 ·rw [if_pos c33] at H
                  have c33b0 : decide (0 ≤ x8_3) = true := decide_eq_true c33
                  clear c33
                  by_cases c34 : x8_3 < (s0_2.length : Int)
                  ·rw [if_pos c34] at H
                   have c34b0 : decide (x8_3 < (s0_2.length : Int)) = true := decide_eq_true c34
                   clear c34
                   by_cases c35 : 0 ≤ x9_5
                   ·rw [if_pos c35] at H
                    have c35b0 : decide (0 ≤ x9_5) = true := decide_eq_true c35
                    clear c35
                    by_cases c36 : x9_5 < (((rd_T44 s0_2 x8_3).f1).length : Int)
                    ·rw [if_pos c36] at H
                     have c36b0 : decide (x9_5 < (((rd_T44 s0_2 x8_3).f1).length : Int)) = true := decide_eq_true c36
                     clear c36
                     have H' := zm H
                     clear H
                     obtain ⟨ASz37_0, cSz37_0, ASz37_1, cSz37_1, ASz37_2, cSz37_2, HGz37, hgz37, HSz37_0, HSz37_1, HSz37_2⟩ := HI0.out
                     have hcz37_0 := cellS34_0 HGz37
                     have hcz37_1 := cellS34_1 HGz37
                     have hcz37_2 := cellS34_2 HGz37
                     clear HGz37 hgz37
                     have p126 : 0 ≤ (x8_3 : Int) := of_decide_eq_true (by first | (with_reducible assumption) | assumption)
                     have q126 : x8_3 < (s0_2.length : Int) := of_decide_eq_true (by first | (with_reducible assumption) | assumption)
                     obtain ⟨ad126, A126_1, c126_1, e126, hx126_0, hx126_1, hl126_1, hi126_1⟩ := at_T44 HSz37_2 x8_3 p126 q126
                     cases e126
                     replace hx126_0 := pw_cell_below HB.out hx126_0
                     replace hx126_1 := pw_cell_below HB.out hx126_1
                     have HZ126_1 := zm hi126_1
                     have HC126_1 := zm hl126_1
                     clear hi126_1 hl126_1
                     have HR126_1 := zm (Kd.C_below HZ126_1.out HB.out)
                     replace p126 := eq_true p126
                     replace q126 := eq_true q126
                     have p127 : 0 ≤ (x9_5 : Int) := of_decide_eq_true (by first | (with_reducible assumption) | assumption)
                     have q127 : x9_5 < (((rd_T44 s0_2 x8_3).f1).length : Int) := of_decide_eq_true (by first | (with_reducible assumption) | assumption)
                     obtain ⟨ad127, A127_0, c127_0, A127_1, c127_1, A127_6, c127_6, A127_7, c127_7, e127, hx127_0, hx127_1, hx127_2, hx127_3, hx127_4, hx127_5, hx127_6, hx127_7, hl127_0, hi127_0, hl127_1, hi127_1, hl127_6, hi127_6, hl127_7, hi127_7⟩ := at_T59 HZ126_1.out x9_5 p127 q127
                     cases e127
                     replace hx127_0 := pw_cell_below HB.out hx127_0
                     replace hx127_1 := pw_cell_below HB.out hx127_1
                     replace hx127_2 := pw_cell_below HB.out hx127_2
                     replace hx127_3 := pw_cell_below HB.out hx127_3
                     replace hx127_4 := pw_cell_below HB.out hx127_4
                     replace hx127_5 := pw_cell_below HB.out hx127_5
                     replace hx127_6 := pw_cell_below HB.out hx127_6
                     replace hx127_7 := pw_cell_below HB.out hx127_7
                     have HZ127_0 := zm hi127_0
                     have HC127_0 := zm hl127_0
                     clear hi127_0 hl127_0
                     have HR127_0 := zm (Kd.C_below HZ127_0.out HB.out)
                     have HZ127_1 := zm hi127_1
                     have HC127_1 := zm hl127_1
                     clear hi127_1 hl127_1
                     have HR127_1 := zm (Kd.C_below HZ127_1.out HB.out)
                     have HZ127_6 := zm hi127_6
                     have HC127_6 := zm hl127_6
                     clear hi127_6 hl127_6
                     have HR127_6 := zm (Kd.C_below HZ127_6.out HB.out)
                     have HZ127_7 := zm hi127_7
                     have HC127_7 := zm hl127_7
                     clear hi127_7 hl127_7
                     have HR127_7 := zm (Kd.C_below HZ127_7.out HB.out)
                     replace p127 := eq_true p127
                     replace q127 := eq_true q127
                     go_wp2_with (first | ((with_reducible refine gate_dst (N := 10) rfl ?_); refine box_event ?hg (N := 10) ?hd (cs := #[.slice none 0 0, .slice none 0 0, .int .i64 0, .int .i64 0, .int .i64 0, .int .i64 0, .slice none 0 0, .slice none 0 0]) (t := 59) ?hr ?_; (case hd => rfl); (case hg => rfl); (case hr => first | (go_simp; done) | (go_simp; rfl)); intro gb128 hg w38 hbox hb; have n0_ := zm (IsS34.below (by repeat (first | (with_reducible first | exact HI0.out | apply IsS34.alloc | apply IsS34.drewN | apply IsS34.drew) | exact HI0.out)) hb); have n1_ := zm (Kd.C_below (by repeat (first | (with_reducible exact HR124_1.out) | (with_reducible refine Kd.C_alloc ?_ _) | (with_reducible refine Kd.C_drewN ?_ _) | (with_reducible refine Kd.C_drew ?_) | exact HR124_1.out)) hb); have n2_ := zm (Kd.C_below (by repeat (first | (with_reducible exact HR126_1.out) | (with_reducible refine Kd.C_alloc ?_ _) | (with_reducible refine Kd.C_drewN ?_ _) | (with_reducible refine Kd.C_drew ?_) | exact HR126_1.out)) hb); have n3_ := zm (Kd.C_below (by repeat (first | (with_reducible exact HR127_0.out) | (with_reducible refine Kd.C_alloc ?_ _) | (with_reducible refine Kd.C_drewN ?_ _) | (with_reducible refine Kd.C_drew ?_) | exact HR127_0.out)) hb); have n4_ := zm (Kd.C_below (by repeat (first | (with_reducible exact HR127_1.out) | (with_reducible refine Kd.C_alloc ?_ _) | (with_reducible refine Kd.C_drewN ?_ _) | (with_reducible refine Kd.C_drew ?_) | exact HR127_1.out)) hb); have n5_ := zm (Kd.C_below (by repeat (first | (with_reducible exact HR127_6.out) | (with_reducible refine Kd.C_alloc ?_ _) | (with_reducible refine Kd.C_drewN ?_ _) | (with_reducible refine Kd.C_drew ?_) | exact HR127_6.out)) hb); have n6_ := zm (Kd.C_below (by repeat (first | (with_reducible exact HR127_7.out) | (with_reducible refine Kd.C_alloc ?_ _) | (with_reducible refine Kd.C_drewN ?_ _) | (with_reducible refine Kd.C_drew ?_) | exact HR127_7.out)) hb); have n7_ := zm (KeepBut.trans (by repeat (first | (with_reducible first | exact HK.out | apply KeepBut.set_ | apply keep_drewN | apply keep_drew | apply keep_alloc) | exact HK.out)) (KeepBut.of_below hb g none) (.inl rfl)); have n8_ := zm (below_step (by repeat (first | (with_reducible first | exact HB.out | apply below_alloc | apply pw_below_drewN | apply below_drew1 | refine below_set ?_ (IsS34.ge HI0.out)) | exact HB.out)) hb); have n9_ := zm (hbox); have n10_ := zm ((by rw [hg]; exact (keep_size (w := w) (g := g) (row := none) (by repeat (first | (with_reducible first | exact HK.out | apply KeepBut.set_ | apply keep_drewN | apply keep_drew | apply keep_alloc) | exact HK.out))) : w.heap.size ≤ gb128)); have n11_ := zm ((Nat.le_trans HW0.out (by rw [hg]; exact (keep_size (w := w) (g := g) (row := none) (by repeat (first | (with_reducible first | exact HK.out | apply KeepBut.set_ | apply keep_drewN | apply keep_drew | apply keep_alloc) | exact HK.out))) : w.heap.size ≤ gb128) : w0.heap.size ≤ gb128)); have n12_ := zm ((by rw [hg]; exact Nat.ne_of_lt (IsS34.lt (show IsS34 w0 _ g s0_0 s0_1 s0_2 from by repeat (first | (with_reducible first | exact HI0.out | apply IsS34.alloc | apply IsS34.drewN | apply IsS34.drew) | exact HI0.out))) : g ≠ gb128)); have n13_ := zm ((by rw [hg]; exact Nat.ne_of_gt (IsS34.lt (show IsS34 w0 _ g s0_0 s0_1 s0_2 from by repeat (first | (with_reducible first | exact HI0.out | apply IsS34.alloc | apply IsS34.drewN | apply IsS34.drew) | exact HI0.out))) : gb128 ≠ g)); clear HI0; clear HR124_1; clear HR126_1; clear HR127_0; clear HR127_1; clear HR127_6; clear HR127_7; clear HK; clear HB; have HI0 := n0_; have HR124_1 := n1_; have HR126_1 := n2_; have HR127_0 := n3_; have HR127_1 := n4_; have HR127_6 := n5_; have HR127_7 := n6_; have HK := n7_; have HB := n8_; have BK128 := n9_; have GW128 := n10_; have GE128 := n11_; have NB0_128 := n12_; have NB128_0 := n13_; clear n0_ n1_ n2_ n3_ n4_ n5_ n6_ n7_ n8_ n9_ n10_ n11_ n12_ n13_; clear hb hbox hg; have hnb39 := NB128_0.out; have hnc39 := NB0_128.out; have hcz40_0 : w38.cell? ⟨gb128, 0, none⟩ = some (.slice none 0 0) := (blk_cell BK128.out 0).trans rfl; have hcz40_1 : w38.cell? ⟨gb128, 1, none⟩ = some (.slice none 0 0) := (blk_cell BK128.out 1).trans rfl; have hcz40_2 : w38.cell? ⟨gb128, 2, none⟩ = some (.int .i64 0) := (blk_cell BK128.out 2).trans rfl; have hcz40_3 : w38.cell? ⟨gb128, 3, none⟩ = some (.int .i64 0) := (blk_cell BK128.out 3).trans rfl; have hcz40_4 : w38.cell? ⟨gb128, 4, none⟩ = some (.int .i64 0) := (blk_cell BK128.out 4).trans rfl; have hcz40_5 : w38.cell? ⟨gb128, 5, none⟩ = some (.int .i64 0) := (blk_cell BK128.out 5).trans rfl; have hcz40_6 : w38.cell? ⟨gb128, 6, none⟩ = some (.slice none 0 0) := (blk_cell BK128.out 6).trans rfl; have hcz40_7 : w38.cell? ⟨gb128, 7, none⟩ = some (.slice none 0 0) := (blk_cell BK128.out 7).trans rfl; have hfz40_0 := blk_frozen BK128.out 0; have hfz40_1 := blk_frozen BK128.out 1; have hfz40_2 := blk_frozen BK128.out 2; have hfz40_3 := blk_frozen BK128.out 3; have hfz40_4 := blk_frozen BK128.out 4; have hfz40_5 := blk_frozen BK128.out 5; have hfz40_6 := blk_frozen BK128.out 6; have hfz40_7 := blk_frozen BK128.out 7))
                     repeat (go_quiet (first | ((with_reducible refine gate_dst (N := 10) rfl ?_); refine box_event ?hg (N := 10) ?hd (cs := #[.slice none 0 0, .slice none 0 0, .int .i64 0, .int .i64 0, .int .i64 0, .int .i64 0, .slice none 0 0, .slice none 0 0]) (t := 59) ?hr ?_; (case hd => rfl); (case hg => rfl); (case hr => first | (go_simp; done) | (go_simp; rfl)); intro gb128 hg w38 hbox hb; have n0_ := zm (IsS34.below (by repeat (first | (with_reducible first | exact HI0.out | apply IsS34.alloc | apply IsS34.drewN | apply IsS34.drew) | exact HI0.out)) hb); have n1_ := zm (Kd.C_below (by repeat (first | (with_reducible exact HR124_1.out) | (with_reducible refine Kd.C_alloc ?_ _) | (with_reducible refine Kd.C_drewN ?_ _) | (with_reducible refine Kd.C_drew ?_) | exact HR124_1.out)) hb); have n2_ := zm (Kd.C_below (by repeat (first | (with_reducible exact HR126_1.out) | (with_reducible refine Kd.C_alloc ?_ _) | (with_reducible refine Kd.C_drewN ?_ _) | (with_reducible refine Kd.C_drew ?_) | exact HR126_1.out)) hb); have n3_ := zm (Kd.C_below (by repeat (first | (with_reducible exact HR127_0.out) | (with_reducible refine Kd.C_alloc ?_ _) | (with_reducible refine Kd.C_drewN ?_ _) | (with_reducible refine Kd.C_drew ?_) | exact HR127_0.out)) hb); have n4_ := zm (Kd.C_below (by repeat (first | (with_reducible exact HR127_1.out) | (with_reducible refine Kd.C_alloc ?_ _) | (with_reducible refine Kd.C_drewN ?_ _) | (with_reducible refine Kd.C_drew ?_) | exact HR127_1.out)) hb); have n5_ := zm (Kd.C_below (by repeat (first | (with_reducible exact HR127_6.out) | (with_reducible refine Kd.C_alloc ?_ _) | (with_reducible refine Kd.C_drewN ?_ _) | (with_reducible refine Kd.C_drew ?_) | exact HR127_6.out)) hb); have n6_ := zm (Kd.C_below (by repeat (first | (with_reducible exact HR127_7.out) | (with_reducible refine Kd.C_alloc ?_ _) | (with_reducible refine Kd.C_drewN ?_ _) | (with_reducible refine Kd.C_drew ?_) | exact HR127_7.out)) hb); have n7_ := zm (KeepBut.trans (by repeat (first | (with_reducible first | exact HK.out | apply KeepBut.set_ | apply keep_drewN | apply keep_drew | apply keep_alloc) | exact HK.out)) (KeepBut.of_below hb g none) (.inl rfl)); have n8_ := zm (below_step (by repeat (first | (with_reducible first | exact HB.out | apply below_alloc | apply pw_below_drewN | apply below_drew1 | refine below_set ?_ (IsS34.ge HI0.out)) | exact HB.out)) hb); have n9_ := zm (hbox); have n10_ := zm ((by rw [hg]; exact (keep_size (w := w) (g := g) (row := none) (by repeat (first | (with_reducible first | exact HK.out | apply KeepBut.set_ | apply keep_drewN | apply keep_drew | apply keep_alloc) | exact HK.out))) : w.heap.size ≤ gb128)); have n11_ := zm ((Nat.le_trans HW0.out (by rw [hg]; exact (keep_size (w := w) (g := g) (row := none) (by repeat (first | (with_reducible first | exact HK.out | apply KeepBut.set_ | apply keep_drewN | apply keep_drew | apply keep_alloc) | exact HK.out))) : w.heap.size ≤ gb128) : w0.heap.size ≤ gb128)); have n12_ := zm ((by rw [hg]; exact Nat.ne_of_lt (IsS34.lt (show IsS34 w0 _ g s0_0 s0_1 s0_2 from by repeat (first | (with_reducible first | exact HI0.out | apply IsS34.alloc | apply IsS34.drewN | apply IsS34.drew) | exact HI0.out))) : g ≠ gb128)); have n13_ := zm ((by rw [hg]; exact Nat.ne_of_gt (IsS34.lt (show IsS34 w0 _ g s0_0 s0_1 s0_2 from by repeat (first | (with_reducible first | exact HI0.out | apply IsS34.alloc | apply IsS34.drewN | apply IsS34.drew) | exact HI0.out))) : gb128 ≠ g)); clear HI0; clear HR124_1; clear HR126_1; clear HR127_0; clear HR127_1; clear HR127_6; clear HR127_7; clear HK; clear HB; have HI0 := n0_; have HR124_1 := n1_; have HR126_1 := n2_; have HR127_0 := n3_; have HR127_1 := n4_; have HR127_6 := n5_; have HR127_7 := n6_; have HK := n7_; have HB := n8_; have BK128 := n9_; have GW128 := n10_; have GE128 := n11_; have NB0_128 := n12_; have NB128_0 := n13_; clear n0_ n1_ n2_ n3_ n4_ n5_ n6_ n7_ n8_ n9_ n10_ n11_ n12_ n13_; clear hb hbox hg; have hnb39 := NB128_0.out; have hnc39 := NB0_128.out; have hcz40_0 : w38.cell? ⟨gb128, 0, none⟩ = some (.slice none 0 0) := (blk_cell BK128.out 0).trans rfl; have hcz40_1 : w38.cell? ⟨gb128, 1, none⟩ = some (.slice none 0 0) := (blk_cell BK128.out 1).trans rfl; have hcz40_2 : w38.cell? ⟨gb128, 2, none⟩ = some (.int .i64 0) := (blk_cell BK128.out 2).trans rfl; have hcz40_3 : w38.cell? ⟨gb128, 3, none⟩ = some (.int .i64 0) := (blk_cell BK128.out 3).trans rfl; have hcz40_4 : w38.cell? ⟨gb128, 4, none⟩ = some (.int .i64 0) := (blk_cell BK128.out 4).trans rfl; have hcz40_5 : w38.cell? ⟨gb128, 5, none⟩ = some (.int .i64 0) := (blk_cell BK128.out 5).trans rfl; have hcz40_6 : w38.cell? ⟨gb128, 6, none⟩ = some (.slice none 0 0) := (blk_cell BK128.out 6).trans rfl; have hcz40_7 : w38.cell? ⟨gb128, 7, none⟩ = some (.slice none 0 0) := (blk_cell BK128.out 7).trans rfl; have hfz40_0 := blk_frozen BK128.out 0; have hfz40_1 := blk_frozen BK128.out 1; have hfz40_2 := blk_frozen BK128.out 2; have hfz40_3 := blk_frozen BK128.out 3; have hfz40_4 := blk_frozen BK128.out 4; have hfz40_5 := blk_frozen BK128.out 5; have hfz40_6 := blk_frozen BK128.out 6; have hfz40_7 := blk_frozen BK128.out 7)); try go_wp2_with (first | ((with_reducible refine gate_dst (N := 10) rfl ?_); refine box_event ?hg (N := 10) ?hd (cs := #[.slice none 0 0, .slice none 0 0, .int .i64 0, .int .i64 0, .int .i64 0, .int .i64 0, .slice none 0 0, .slice none 0 0]) (t := 59) ?hr ?_; (case hd => rfl); (case hg => rfl); (case hr => first | (go_simp; done) | (go_simp; rfl)); intro gb128 hg w38 hbox hb; have n0_ := zm (IsS34.below (by repeat (first | (with_reducible first | exact HI0.out | apply IsS34.alloc | apply IsS34.drewN | apply IsS34.drew) | exact HI0.out)) hb); have n1_ := zm (Kd.C_below (by repeat (first | (with_reducible exact HR124_1.out) | (with_reducible refine Kd.C_alloc ?_ _) | (with_reducible refine Kd.C_drewN ?_ _) | (with_reducible refine Kd.C_drew ?_) | exact HR124_1.out)) hb); have n2_ := zm (Kd.C_below (by repeat (first | (with_reducible exact HR126_1.out) | (with_reducible refine Kd.C_alloc ?_ _) | (with_reducible refine Kd.C_drewN ?_ _) | (with_reducible refine Kd.C_drew ?_) | exact HR126_1.out)) hb); have n3_ := zm (Kd.C_below (by repeat (first | (with_reducible exact HR127_0.out) | (with_reducible refine Kd.C_alloc ?_ _) | (with_reducible refine Kd.C_drewN ?_ _) | (with_reducible refine Kd.C_drew ?_) | exact HR127_0.out)) hb); have n4_ := zm (Kd.C_below (by repeat (first | (with_reducible exact HR127_1.out) | (with_reducible refine Kd.C_alloc ?_ _) | (with_reducible refine Kd.C_drewN ?_ _) | (with_reducible refine Kd.C_drew ?_) | exact HR127_1.out)) hb); have n5_ := zm (Kd.C_below (by repeat (first | (with_reducible exact HR127_6.out) | (with_reducible refine Kd.C_alloc ?_ _) | (with_reducible refine Kd.C_drewN ?_ _) | (with_reducible refine Kd.C_drew ?_) | exact HR127_6.out)) hb); have n6_ := zm (Kd.C_below (by repeat (first | (with_reducible exact HR127_7.out) | (with_reducible refine Kd.C_alloc ?_ _) | (with_reducible refine Kd.C_drewN ?_ _) | (with_reducible refine Kd.C_drew ?_) | exact HR127_7.out)) hb); have n7_ := zm (KeepBut.trans (by repeat (first | (with_reducible first | exact HK.out | apply KeepBut.set_ | apply keep_drewN | apply keep_drew | apply keep_alloc) | exact HK.out)) (KeepBut.of_below hb g none) (.inl rfl)); have n8_ := zm (below_step (by repeat (first | (with_reducible first | exact HB.out | apply below_alloc | apply pw_below_drewN | apply below_drew1 | refine below_set ?_ (IsS34.ge HI0.out)) | exact HB.out)) hb); have n9_ := zm (hbox); have n10_ := zm ((by rw [hg]; exact (keep_size (w := w) (g := g) (row := none) (by repeat (first | (with_reducible first | exact HK.out | apply KeepBut.set_ | apply keep_drewN | apply keep_drew | apply keep_alloc) | exact HK.out))) : w.heap.size ≤ gb128)); have n11_ := zm ((Nat.le_trans HW0.out (by rw [hg]; exact (keep_size (w := w) (g := g) (row := none) (by repeat (first | (with_reducible first | exact HK.out | apply KeepBut.set_ | apply keep_drewN | apply keep_drew | apply keep_alloc) | exact HK.out))) : w.heap.size ≤ gb128) : w0.heap.size ≤ gb128)); have n12_ := zm ((by rw [hg]; exact Nat.ne_of_lt (IsS34.lt (show IsS34 w0 _ g s0_0 s0_1 s0_2 from by repeat (first | (with_reducible first | exact HI0.out | apply IsS34.alloc | apply IsS34.drewN | apply IsS34.drew) | exact HI0.out))) : g ≠ gb128)); have n13_ := zm ((by rw [hg]; exact Nat.ne_of_gt (IsS34.lt (show IsS34 w0 _ g s0_0 s0_1 s0_2 from by repeat (first | (with_reducible first | exact HI0.out | apply IsS34.alloc | apply IsS34.drewN | apply IsS34.drew) | exact HI0.out))) : gb128 ≠ g)); clear HI0; clear HR124_1; clear HR126_1; clear HR127_0; clear HR127_1; clear HR127_6; clear HR127_7; clear HK; clear HB; have HI0 := n0_; have HR124_1 := n1_; have HR126_1 := n2_; have HR127_0 := n3_; have HR127_1 := n4_; have HR127_6 := n5_; have HR127_7 := n6_; have HK := n7_; have HB := n8_; have BK128 := n9_; have GW128 := n10_; have GE128 := n11_; have NB0_128 := n12_; have NB128_0 := n13_; clear n0_ n1_ n2_ n3_ n4_ n5_ n6_ n7_ n8_ n9_ n10_ n11_ n12_ n13_; clear hb hbox hg; have hnb39 := NB128_0.out; have hnc39 := NB0_128.out; have hcz40_0 : w38.cell? ⟨gb128, 0, none⟩ = some (.slice none 0 0) := (blk_cell BK128.out 0).trans rfl; have hcz40_1 : w38.cell? ⟨gb128, 1, none⟩ = some (.slice none 0 0) := (blk_cell BK128.out 1).trans rfl; have hcz40_2 : w38.cell? ⟨gb128, 2, none⟩ = some (.int .i64 0) := (blk_cell BK128.out 2).trans rfl; have hcz40_3 : w38.cell? ⟨gb128, 3, none⟩ = some (.int .i64 0) := (blk_cell BK128.out 3).trans rfl; have hcz40_4 : w38.cell? ⟨gb128, 4, none⟩ = some (.int .i64 0) := (blk_cell BK128.out 4).trans rfl; have hcz40_5 : w38.cell? ⟨gb128, 5, none⟩ = some (.int .i64 0) := (blk_cell BK128.out 5).trans rfl; have hcz40_6 : w38.cell? ⟨gb128, 6, none⟩ = some (.slice none 0 0) := (blk_cell BK128.out 6).trans rfl; have hcz40_7 : w38.cell? ⟨gb128, 7, none⟩ = some (.slice none 0 0) := (blk_cell BK128.out 7).trans rfl; have hfz40_0 := blk_frozen BK128.out 0; have hfz40_1 := blk_frozen BK128.out 1; have hfz40_2 := blk_frozen BK128.out 2; have hfz40_3 := blk_frozen BK128.out 3; have hfz40_4 := blk_frozen BK128.out 4; have hfz40_5 := blk_frozen BK128.out 5; have hfz40_6 := blk_frozen BK128.out 6; have hfz40_7 := blk_frozen BK128.out 7)))
                     go_loopg [5, 11] kj25 (fun kq v5 v11 w' => ∃ (x5_7 : Int) (x11_7 : Int), v5 = .int .i64 x5_7 ∧ v11 = .int .i64 x11_7 ∧ Aside0 (hallmarkref05_Small.l4 kq a1 x5_7 x8_3 x9_5 x11_7 s0_0 s0_1 s0_2 ((rd_T59 ((rd_T44 s0_2 x8_3).f1) x9_5).f0) ((rd_T59 ((rd_T44 s0_2 x8_3).f1) x9_5).f1) ((rd_T59 ((rd_T44 s0_2 x8_3).f1) x9_5).f2.f0) ((rd_T59 ((rd_T44 s0_2 x8_3).f1) x9_5).f2.f1) ((rd_T59 ((rd_T44 s0_2 x8_3).f1) x9_5).f2.f2) ((rd_T59 ((rd_T44 s0_2 x8_3).f1) x9_5).f2.f3) ((rd_T59 ((rd_T44 s0_2 x8_3).f1) x9_5).f2.f4) ((rd_T59 ((rd_T44 s0_2 x8_3).f1) x9_5).f2.f5) = some r) ∧ Aside0 (kq ≤ kj25) ∧ Aside0 (w'.heap[gb128]? = some (.cells #[(.slice A127_0 ((rd_T59 ((rd_T44 s0_2 x8_3).f1) x9_5).f0).length c127_0), (.slice A127_1 ((rd_T59 ((rd_T44 s0_2 x8_3).f1) x9_5).f1).length c127_1), .int .i64 ((rd_T59 ((rd_T44 s0_2 x8_3).f1) x9_5).f2.f0), .int .i64 ((rd_T59 ((rd_T44 s0_2 x8_3).f1) x9_5).f2.f1), .int .i64 ((rd_T59 ((rd_T44 s0_2 x8_3).f1) x9_5).f2.f2), .int .i64 ((rd_T59 ((rd_T44 s0_2 x8_3).f1) x9_5).f2.f3), (.slice A127_6 ((rd_T59 ((rd_T44 s0_2 x8_3).f1) x9_5).f2.f4).length c127_6), (.slice A127_7 ((rd_T59 ((rd_T44 s0_2 x8_3).f1) x9_5).f2.f5).length c127_7)] 59 (0, 0))) ∧ Aside0 (Kd.C k59 w' A124_1 ((rd_T44 s0_2 x8_3).f1).length ((rd_T44 s0_2 x8_3).f1)) ∧ Aside0 (Kd.C k59 w' (some ad127) ((rd_T44 s0_2 x8_3).f1).length ((rd_T44 s0_2 x8_3).f1)) ∧ Aside0 (Kd.C (Kd.int .i64) w' A127_0 ((rd_T59 ((rd_T44 s0_2 x8_3).f1) x9_5).f0).length ((rd_T59 ((rd_T44 s0_2 x8_3).f1) x9_5).f0)) ∧ Aside0 (Kd.C k24 w' A127_1 ((rd_T59 ((rd_T44 s0_2 x8_3).f1) x9_5).f1).length ((rd_T59 ((rd_T44 s0_2 x8_3).f1) x9_5).f1)) ∧ Aside0 (Kd.C (Kd.int .i64) w' A127_6 ((rd_T59 ((rd_T44 s0_2 x8_3).f1) x9_5).f2.f4).length ((rd_T59 ((rd_T44 s0_2 x8_3).f1) x9_5).f2.f4)) ∧ Aside0 (Kd.C (Kd.int .i64) w' A127_7 ((rd_T59 ((rd_T44 s0_2 x8_3).f1) x9_5).f2.f5).length ((rd_T59 ((rd_T44 s0_2 x8_3).f1) x9_5).f2.f5)) ∧ Aside0 (IsS34 w0 w' g s0_0 s0_1 s0_2) ∧ Aside0 (KeepBut w w' g none) ∧ Aside0 (Below w0.heap.size w0 w'))
                     case atStart => exact ⟨(wrap64 ((wrap64 ((wrap64 ((wrap64 (x5_5 + (((rd_T59 ((rd_T44 s0_2 x8_3).f1) x9_5).f0).length : Int))) + (((rd_T59 ((rd_T44 s0_2 x8_3).f1) x9_5).f1).length : Int))) + (((rd_T59 ((rd_T44 s0_2 x8_3).f1) x9_5).f2.f4).length : Int))) + (((rd_T59 ((rd_T44 s0_2 x8_3).f1) x9_5).f2.f5).length : Int))), (0), (by first | rfl | (simp; done) | (simp [*]; done) | (simp [*, wrap64]; done) | (simp [*]; unfold wrap64; omega)), (by first | rfl | (simp; done) | (simp [*]; done) | (simp [*, wrap64]; done) | (simp [*]; unfold wrap64; omega)), H', ⟨Nat.le_refl _⟩, ⟨by (with_reducible repeat (first | refine blk_drewN ?_ _ | refine blk_drew ?_ | refine blk_alloc ?_ _)); refine blk_put (cs := #[.slice A127_0 ((rd_T59 ((rd_T44 s0_2 x8_3).f1) x9_5).f0).length c127_0, .slice A127_1 ((rd_T59 ((rd_T44 s0_2 x8_3).f1) x9_5).f1).length c127_1, .int .i64 ((rd_T59 ((rd_T44 s0_2 x8_3).f1) x9_5).f2.f0), .int .i64 ((rd_T59 ((rd_T44 s0_2 x8_3).f1) x9_5).f2.f1), .int .i64 ((rd_T59 ((rd_T44 s0_2 x8_3).f1) x9_5).f2.f2), .int .i64 ((rd_T59 ((rd_T44 s0_2 x8_3).f1) x9_5).f2.f3), .slice A127_6 ((rd_T59 ((rd_T44 s0_2 x8_3).f1) x9_5).f2.f4).length c127_6, .slice none 0 0]) ?_ 7 _ rfl; (with_reducible repeat (first | refine blk_drewN ?_ _ | refine blk_drew ?_ | refine blk_alloc ?_ _)); refine blk_put (cs := #[.slice A127_0 ((rd_T59 ((rd_T44 s0_2 x8_3).f1) x9_5).f0).length c127_0, .slice A127_1 ((rd_T59 ((rd_T44 s0_2 x8_3).f1) x9_5).f1).length c127_1, .int .i64 ((rd_T59 ((rd_T44 s0_2 x8_3).f1) x9_5).f2.f0), .int .i64 ((rd_T59 ((rd_T44 s0_2 x8_3).f1) x9_5).f2.f1), .int .i64 ((rd_T59 ((rd_T44 s0_2 x8_3).f1) x9_5).f2.f2), .int .i64 ((rd_T59 ((rd_T44 s0_2 x8_3).f1) x9_5).f2.f3), .slice none 0 0, .slice none 0 0]) ?_ 6 _ rfl; (with_reducible repeat (first | refine blk_drewN ?_ _ | refine blk_drew ?_ | refine blk_alloc ?_ _)); refine blk_put (cs := #[.slice A127_0 ((rd_T59 ((rd_T44 s0_2 x8_3).f1) x9_5).f0).length c127_0, .slice A127_1 ((rd_T59 ((rd_T44 s0_2 x8_3).f1) x9_5).f1).length c127_1, .int .i64 ((rd_T59 ((rd_T44 s0_2 x8_3).f1) x9_5).f2.f0), .int .i64 ((rd_T59 ((rd_T44 s0_2 x8_3).f1) x9_5).f2.f1), .int .i64 ((rd_T59 ((rd_T44 s0_2 x8_3).f1) x9_5).f2.f2), .int .i64 0, .slice none 0 0, .slice none 0 0]) ?_ 5 _ rfl; (with_reducible repeat (first | refine blk_drewN ?_ _ | refine blk_drew ?_ | refine blk_alloc ?_ _)); refine blk_put (cs := #[.slice A127_0 ((rd_T59 ((rd_T44 s0_2 x8_3).f1) x9_5).f0).length c127_0, .slice A127_1 ((rd_T59 ((rd_T44 s0_2 x8_3).f1) x9_5).f1).length c127_1, .int .i64 ((rd_T59 ((rd_T44 s0_2 x8_3).f1) x9_5).f2.f0), .int .i64 ((rd_T59 ((rd_T44 s0_2 x8_3).f1) x9_5).f2.f1), .int .i64 0, .int .i64 0, .slice none 0 0, .slice none 0 0]) ?_ 4 _ rfl; (with_reducible repeat (first | refine blk_drewN ?_ _ | refine blk_drew ?_ | refine blk_alloc ?_ _)); refine blk_put (cs := #[.slice A127_0 ((rd_T59 ((rd_T44 s0_2 x8_3).f1) x9_5).f0).length c127_0, .slice A127_1 ((rd_T59 ((rd_T44 s0_2 x8_3).f1) x9_5).f1).length c127_1, .int .i64 ((rd_T59 ((rd_T44 s0_2 x8_3).f1) x9_5).f2.f0), .int .i64 0, .int .i64 0, .int .i64 0, .slice none 0 0, .slice none 0 0]) ?_ 3 _ rfl; (with_reducible repeat (first | refine blk_drewN ?_ _ | refine blk_drew ?_ | refine blk_alloc ?_ _)); refine blk_put (cs := #[.slice A127_0 ((rd_T59 ((rd_T44 s0_2 x8_3).f1) x9_5).f0).length c127_0, .slice A127_1 ((rd_T59 ((rd_T44 s0_2 x8_3).f1) x9_5).f1).length c127_1, .int .i64 0, .int .i64 0, .int .i64 0, .int .i64 0, .slice none 0 0, .slice none 0 0]) ?_ 2 _ rfl; (with_reducible repeat (first | refine blk_drewN ?_ _ | refine blk_drew ?_ | refine blk_alloc ?_ _)); refine blk_put (cs := #[.slice A127_0 ((rd_T59 ((rd_T44 s0_2 x8_3).f1) x9_5).f0).length c127_0, .slice none 0 0, .int .i64 0, .int .i64 0, .int .i64 0, .int .i64 0, .slice none 0 0, .slice none 0 0]) ?_ 1 _ rfl; (with_reducible repeat (first | refine blk_drewN ?_ _ | refine blk_drew ?_ | refine blk_alloc ?_ _)); refine blk_put (cs := #[.slice none 0 0, .slice none 0 0, .int .i64 0, .int .i64 0, .int .i64 0, .int .i64 0, .slice none 0 0, .slice none 0 0]) ?_ 0 _ rfl; (with_reducible repeat (first | refine blk_drewN ?_ _ | refine blk_drew ?_ | refine blk_alloc ?_ _)); exact BK128.out⟩, ⟨(Kd.C_below HZ124_1.out (by repeat (first | (with_reducible first | exact HB.out | apply below_alloc | apply pw_below_drewN | apply below_drew1 | refine below_set ?_ (IsS34.ge HI0.out) | refine below_set ?_ GE128.out) | exact HB.out)))⟩, ⟨(Kd.C_below HZ126_1.out (by repeat (first | (with_reducible first | exact HB.out | apply below_alloc | apply pw_below_drewN | apply below_drew1 | refine below_set ?_ (IsS34.ge HI0.out) | refine below_set ?_ GE128.out) | exact HB.out)))⟩, ⟨(Kd.C_below HZ127_0.out (by repeat (first | (with_reducible first | exact HB.out | apply below_alloc | apply pw_below_drewN | apply below_drew1 | refine below_set ?_ (IsS34.ge HI0.out) | refine below_set ?_ GE128.out) | exact HB.out)))⟩, ⟨(Kd.C_below HZ127_1.out (by repeat (first | (with_reducible first | exact HB.out | apply below_alloc | apply pw_below_drewN | apply below_drew1 | refine below_set ?_ (IsS34.ge HI0.out) | refine below_set ?_ GE128.out) | exact HB.out)))⟩, ⟨(Kd.C_below HZ127_6.out (by repeat (first | (with_reducible first | exact HB.out | apply below_alloc | apply pw_below_drewN | apply below_drew1 | refine below_set ?_ (IsS34.ge HI0.out) | refine below_set ?_ GE128.out) | exact HB.out)))⟩, ⟨(Kd.C_below HZ127_7.out (by repeat (first | (with_reducible first | exact HB.out | apply below_alloc | apply pw_below_drewN | apply below_drew1 | refine below_set ?_ (IsS34.ge HI0.out) | refine below_set ?_ GE128.out) | exact HB.out)))⟩, ⟨by repeat (first | (with_reducible first | exact HI0.out | apply IsS34.alloc | apply IsS34.drewN | apply IsS34.drew | refine IsS34.far ?_ NB0_128.out _) | exact HI0.out)⟩, ⟨by repeat (first | (with_reducible first | exact HK.out | apply KeepBut.set_ | apply keep_drewN | apply keep_drew | apply keep_alloc | refine keep_far ?_ GW128.out _) | exact HK.out)⟩, ⟨by repeat (first | (with_reducible first | exact HB.out | apply below_alloc | apply pw_below_drewN | apply below_drew1 | refine below_set ?_ (IsS34.ge HI0.out) | refine below_set ?_ GE128.out) | exact HB.out)⟩⟩
                     case round =>
                      clear H'
                      try clear c1
                      try clear p1
                      try clear q1
                      try clear hx1
                      try clear c2
                      try clear p2
                      try clear c3
                      try clear c5
                      try clear c5b0
                      try clear c6
                      try clear c6b0
                      try clear p6
                      try clear c7
                      try clear c7b0
                      try clear c12
                      try clear c12b0
                      try clear p12
                      try clear q12
                      try clear hx12
                      try clear c13
                      try clear c13b0
                      try clear c14
                      try clear c14b0
                      try clear c19
                      try clear c19b0
                      try clear c22
                      try clear c23
                      try clear c23b0
                      try clear c24
                      try clear c24b0
                      try clear c27
                      try clear c27b0
                      try clear c28
                      try clear c28b0
                      try clear c29
                      try clear c29b0
                      try clear c32
                      try clear c33
                      try clear c33b0
                      try clear c34
                      try clear c34b0
                      try clear c35
                      try clear c35b0
                      try clear c36
                      try clear c36b0
                      try clear c39
                      try clear hcz10_0
                      try clear hcz10_1
                      try clear hcz10_2
                      try clear hcz15_0
                      try clear hcz15_1
                      try clear hcz15_2
                      try clear hcz16_0
                      try clear hcz16_1
                      try clear hcz16_2
                      try clear hcz17_0
                      try clear hcz17_1
                      try clear hcz17_2
                      try clear hcz20_0
                      try clear hcz20_1
                      try clear hcz20_2
                      try clear hcz21_0
                      try clear hcz21_1
                      try clear hcz21_2
                      try clear hcz25_0
                      try clear hcz25_1
                      try clear hcz25_2
                      try clear hcz30_0
                      try clear hcz30_1
                      try clear hcz30_2
                      try clear hcz31_0
                      try clear hcz31_1
                      try clear hcz31_2
                      try clear hcz37_0
                      try clear hcz37_1
                      try clear hcz37_2
                      try clear hcz40_0
                      try clear hcz40_1
                      try clear hcz40_2
                      try clear hcz40_3
                      try clear hcz40_4
                      try clear hcz40_5
                      try clear hcz40_6
                      try clear hcz40_7
                      try clear hcz4_0
                      try clear hcz4_1
                      try clear hcz4_2
                      try clear hcz8_0
                      try clear hcz8_1
                      try clear hcz8_2
                      try clear hcz9_0
                      try clear hcz9_1
                      try clear hcz9_2
                      try clear hfz40_0
                      try clear hfz40_1
                      try clear hfz40_2
                      try clear hfz40_3
                      try clear hfz40_4
                      try clear hfz40_5
                      try clear hfz40_6
                      try clear hfz40_7
                      try clear hx121_0
                      try clear hx121_1
                      try clear hx122_0
                      try clear hx122_1
                      try clear hx123_0
                      try clear hx123_1
                      try clear hx124_0
                      try clear hx124_1
                      try clear hx125_0
                      try clear hx125_1
                      try clear hx126_0
                      try clear hx126_1
                      try clear hx127_0
                      try clear hx127_1
                      try clear hx127_2
                      try clear hx127_3
                      try clear hx127_4
                      try clear hx127_5
                      try clear hx127_6
                      try clear hx127_7
                      try clear p1
                      try clear p12
                      try clear p121
                      try clear p122
                      try clear p123
                      try clear p124
                      try clear p125
                      try clear p126
                      try clear p127
                      try clear p2
                      try clear p6
                      try clear q1
                      try clear q12
                      try clear q121
                      try clear q122
                      try clear q123
                      try clear q124
                      try clear q125
                      try clear q126
                      try clear q127
                      obtain ⟨x5_7, x11_7, rfl, rfl, HA, HK7, BK128, HR124_1, HR126_1, HR127_0, HR127_1, HR127_6, HR127_7, HI0, HK, HB⟩ := hrel
                      cases gk with
                      | zero => exact absurd HA.out (by simp [hallmarkref05_Small.l4])
                      | succ k7 =>
                       have H := HA.out
                       clear HA
                       simp only [hallmarkref05_Small.l4] at H
                       by_cases c41 : x11_7 < (((rd_T59 ((rd_T44 s0_2 x8_3).f1) x9_5).f1).length : Int)
                       ·rw [if_pos c41] at H
                        have c41b0 : decide (x11_7 < (((rd_T59 ((rd_T44 s0_2 x8_3).f1) x9_5).f1).length : Int)) = true := decide_eq_true c41
                        clear c41
                        by_cases c42 : x5_7 ≤ a1
                        ·rw [if_pos c42] at H
                         have c42b0 : decide (x5_7 ≤ a1) = true := decide_eq_true c42
                         clear c42
                         by_cases c43 : 0 ≤ x11_7
                         ·rw [if_pos c43] at H
                          have c43b0 : decide (0 ≤ x11_7) = true := decide_eq_true c43
                          clear c43
                          have H' := zm H
                          clear H
                          have hnb44 := NB128_0.out
                          have hnc44 := NB0_128.out
                          have hcz45_0 : wr.cell? ⟨gb128, 0, none⟩ = some (.slice A127_0 ((rd_T59 ((rd_T44 s0_2 x8_3).f1) x9_5).f0).length c127_0) := (blk_cell BK128.out 0).trans rfl
                          have hcz45_1 : wr.cell? ⟨gb128, 1, none⟩ = some (.slice A127_1 ((rd_T59 ((rd_T44 s0_2 x8_3).f1) x9_5).f1).length c127_1) := (blk_cell BK128.out 1).trans rfl
                          have hcz45_2 : wr.cell? ⟨gb128, 2, none⟩ = some (.int .i64 ((rd_T59 ((rd_T44 s0_2 x8_3).f1) x9_5).f2.f0)) := (blk_cell BK128.out 2).trans rfl
                          have hcz45_3 : wr.cell? ⟨gb128, 3, none⟩ = some (.int .i64 ((rd_T59 ((rd_T44 s0_2 x8_3).f1) x9_5).f2.f1)) := (blk_cell BK128.out 3).trans rfl
                          have hcz45_4 : wr.cell? ⟨gb128, 4, none⟩ = some (.int .i64 ((rd_T59 ((rd_T44 s0_2 x8_3).f1) x9_5).f2.f2)) := (blk_cell BK128.out 4).trans rfl
                          have hcz45_5 : wr.cell? ⟨gb128, 5, none⟩ = some (.int .i64 ((rd_T59 ((rd_T44 s0_2 x8_3).f1) x9_5).f2.f3)) := (blk_cell BK128.out 5).trans rfl
                          have hcz45_6 : wr.cell? ⟨gb128, 6, none⟩ = some (.slice A127_6 ((rd_T59 ((rd_T44 s0_2 x8_3).f1) x9_5).f2.f4).length c127_6) := (blk_cell BK128.out 6).trans rfl
                          have hcz45_7 : wr.cell? ⟨gb128, 7, none⟩ = some (.slice A127_7 ((rd_T59 ((rd_T44 s0_2 x8_3).f1) x9_5).f2.f5).length c127_7) := (blk_cell BK128.out 7).trans rfl
                          have hfz45_0 := blk_frozen BK128.out 0
                          have hfz45_1 := blk_frozen BK128.out 1
                          have hfz45_2 := blk_frozen BK128.out 2
                          have hfz45_3 := blk_frozen BK128.out 3
                          have hfz45_4 := blk_frozen BK128.out 4
                          have hfz45_5 := blk_frozen BK128.out 5
                          have hfz45_6 := blk_frozen BK128.out 6
                          have hfz45_7 := blk_frozen BK128.out 7
                          have p129 : 0 ≤ (x11_7 : Int) := of_decide_eq_true (by first | (with_reducible assumption) | assumption)
                          have q129 : x11_7 < (((rd_T59 ((rd_T44 s0_2 x8_3).f1) x9_5).f1).length : Int) := of_decide_eq_true (by first | (with_reducible assumption) | assumption)
                          obtain ⟨ad129, A129_6, c129_6, e129, hx129_0, hx129_1, hx129_2, hx129_3, hx129_4, hx129_5, hx129_6, hx129_7, hl129_6, hi129_6⟩ := at_T24 HZ127_1.out x11_7 p129 q129
                          cases e129
                          replace hx129_0 := pw_cell_below HB.out hx129_0
                          replace hx129_1 := pw_cell_below HB.out hx129_1
                          replace hx129_2 := pw_cell_below HB.out hx129_2
                          replace hx129_3 := pw_cell_below HB.out hx129_3
                          replace hx129_4 := pw_cell_below HB.out hx129_4
                          replace hx129_5 := pw_cell_below HB.out hx129_5
                          replace hx129_6 := pw_cell_below HB.out hx129_6
                          replace hx129_7 := pw_cell_below HB.out hx129_7
                          have HZ129_6 := zm hi129_6
                          have HC129_6 := zm hl129_6
                          clear hi129_6 hl129_6
                          have HR129_6 := zm (Kd.C_below HZ129_6.out HB.out)
                          replace p129 := eq_true p129
                          replace q129 := eq_true q129
                          have p130 : 0 ≤ (x11_7 : Int) := of_decide_eq_true (by first | (with_reducible assumption) | assumption)
                          have q130 : x11_7 < (((rd_T59 ((rd_T44 s0_2 x8_3).f1) x9_5).f1).length : Int) := of_decide_eq_true (by first | (with_reducible assumption) | assumption)
                          obtain ⟨ad130, A130_6, c130_6, e130, hx130_0, hx130_1, hx130_2, hx130_3, hx130_4, hx130_5, hx130_6, hx130_7, hl130_6, hi130_6⟩ := at_T24 HZ127_1.out x11_7 p130 q130
                          obtain rfl : ad129 = ad130 := (by injection e130)
                          replace hx130_0 := pw_cell_below HB.out hx130_0
                          replace hx130_1 := pw_cell_below HB.out hx130_1
                          replace hx130_2 := pw_cell_below HB.out hx130_2
                          replace hx130_3 := pw_cell_below HB.out hx130_3
                          replace hx130_4 := pw_cell_below HB.out hx130_4
                          replace hx130_5 := pw_cell_below HB.out hx130_5
                          replace hx130_6 := pw_cell_below HB.out hx130_6
                          replace hx130_7 := pw_cell_below HB.out hx130_7
                          have HZ130_6 := zm hi130_6
                          have HC130_6 := zm hl130_6
                          clear hi130_6 hl130_6
                          have HR130_6 := zm (Kd.C_below HZ130_6.out HB.out)
                          replace p130 := eq_true p130
                          replace q130 := eq_true q130
                          have ea_ := Option.some.inj (hx129_6.symm.trans hx130_6)
                          injection ea_ with ea_ en_ ec_
                          subst ea_
                          subst ec_
                          clear en_
                          go_wp2
                          repeat (go_quiet (fail); try go_wp2)
                          go_roundg k7
                          case measure => have := HJ2.out; have := HJ10.out; have := HK3.out; have := HJ17.out; have := HK5.out; have := HJ25.out; have := HK7.out; omega
                          case rel => exact ⟨(wrap64 ((wrap64 (x5_7 + (((rd_T24 ((rd_T59 ((rd_T44 s0_2 x8_3).f1) x9_5).f1) x11_7).f6).length : Int))) + (wrap64 ((((rd_T24 ((rd_T59 ((rd_T44 s0_2 x8_3).f1) x9_5).f1) x11_7).f5).size : Int) / 8)))), (wrap64 (x11_7 + 1)), (by first | rfl | (simp; done) | (simp [*]; done) | (simp [*, wrap64]; done) | (simp [*]; unfold wrap64; omega)), (by first | rfl | (simp; done) | (simp [*]; done) | (simp [*, wrap64]; done) | (simp [*]; unfold wrap64; omega)), H', ⟨by have := HJ2.out; have := HJ10.out; have := HK3.out; have := HJ17.out; have := HK5.out; have := HJ25.out; have := HK7.out; omega⟩, ⟨by (with_reducible repeat (first | refine blk_drewN ?_ _ | refine blk_drew ?_ | refine blk_alloc ?_ _)); exact BK128.out⟩, ⟨by repeat (first | (with_reducible exact HR124_1.out) | (with_reducible refine Kd.C_alloc ?_ _) | (with_reducible refine Kd.C_drewN ?_ _) | (with_reducible refine Kd.C_drew ?_) | exact HR124_1.out)⟩, ⟨by repeat (first | (with_reducible exact HR126_1.out) | (with_reducible refine Kd.C_alloc ?_ _) | (with_reducible refine Kd.C_drewN ?_ _) | (with_reducible refine Kd.C_drew ?_) | exact HR126_1.out)⟩, ⟨by repeat (first | (with_reducible exact HR127_0.out) | (with_reducible refine Kd.C_alloc ?_ _) | (with_reducible refine Kd.C_drewN ?_ _) | (with_reducible refine Kd.C_drew ?_) | exact HR127_0.out)⟩, ⟨by repeat (first | (with_reducible exact HR127_1.out) | (with_reducible refine Kd.C_alloc ?_ _) | (with_reducible refine Kd.C_drewN ?_ _) | (with_reducible refine Kd.C_drew ?_) | exact HR127_1.out)⟩, ⟨by repeat (first | (with_reducible exact HR127_6.out) | (with_reducible refine Kd.C_alloc ?_ _) | (with_reducible refine Kd.C_drewN ?_ _) | (with_reducible refine Kd.C_drew ?_) | exact HR127_6.out)⟩, ⟨by repeat (first | (with_reducible exact HR127_7.out) | (with_reducible refine Kd.C_alloc ?_ _) | (with_reducible refine Kd.C_drewN ?_ _) | (with_reducible refine Kd.C_drew ?_) | exact HR127_7.out)⟩, ⟨by repeat (first | (with_reducible first | exact HI0.out | apply IsS34.alloc | apply IsS34.drewN | apply IsS34.drew | refine IsS34.far ?_ NB0_128.out _) | exact HI0.out)⟩, ⟨by repeat (first | (with_reducible first | exact HK.out | apply KeepBut.set_ | apply keep_drewN | apply keep_drew | apply keep_alloc | refine keep_far ?_ GW128.out _) | exact HK.out)⟩, ⟨by repeat (first | (with_reducible first | exact HB.out | apply below_alloc | apply pw_below_drewN | apply below_drew1 | refine below_set ?_ (IsS34.ge HI0.out) | refine below_set ?_ GE128.out) | exact HB.out)⟩⟩
                         ·rw [if_neg c43] at H
                          exact absurd H (by simp)
                        ·rw [if_neg c42] at H
                         have c42b0 : decide (x5_7 ≤ a1) = false := decide_eq_false c42
                         clear c42
                         have H' := zm H
                         clear H
                         have hnb46 := NB128_0.out
                         have hnc46 := NB0_128.out
                         have hcz47_0 : wr.cell? ⟨gb128, 0, none⟩ = some (.slice A127_0 ((rd_T59 ((rd_T44 s0_2 x8_3).f1) x9_5).f0).length c127_0) := (blk_cell BK128.out 0).trans rfl
                         have hcz47_1 : wr.cell? ⟨gb128, 1, none⟩ = some (.slice A127_1 ((rd_T59 ((rd_T44 s0_2 x8_3).f1) x9_5).f1).length c127_1) := (blk_cell BK128.out 1).trans rfl
                         have hcz47_2 : wr.cell? ⟨gb128, 2, none⟩ = some (.int .i64 ((rd_T59 ((rd_T44 s0_2 x8_3).f1) x9_5).f2.f0)) := (blk_cell BK128.out 2).trans rfl
                         have hcz47_3 : wr.cell? ⟨gb128, 3, none⟩ = some (.int .i64 ((rd_T59 ((rd_T44 s0_2 x8_3).f1) x9_5).f2.f1)) := (blk_cell BK128.out 3).trans rfl
                         have hcz47_4 : wr.cell? ⟨gb128, 4, none⟩ = some (.int .i64 ((rd_T59 ((rd_T44 s0_2 x8_3).f1) x9_5).f2.f2)) := (blk_cell BK128.out 4).trans rfl
                         have hcz47_5 : wr.cell? ⟨gb128, 5, none⟩ = some (.int .i64 ((rd_T59 ((rd_T44 s0_2 x8_3).f1) x9_5).f2.f3)) := (blk_cell BK128.out 5).trans rfl
                         have hcz47_6 : wr.cell? ⟨gb128, 6, none⟩ = some (.slice A127_6 ((rd_T59 ((rd_T44 s0_2 x8_3).f1) x9_5).f2.f4).length c127_6) := (blk_cell BK128.out 6).trans rfl
                         have hcz47_7 : wr.cell? ⟨gb128, 7, none⟩ = some (.slice A127_7 ((rd_T59 ((rd_T44 s0_2 x8_3).f1) x9_5).f2.f5).length c127_7) := (blk_cell BK128.out 7).trans rfl
                         have hfz47_0 := blk_frozen BK128.out 0
                         have hfz47_1 := blk_frozen BK128.out 1
                         have hfz47_2 := blk_frozen BK128.out 2
                         have hfz47_3 := blk_frozen BK128.out 3
                         have hfz47_4 := blk_frozen BK128.out 4
                         have hfz47_5 := blk_frozen BK128.out 5
                         have hfz47_6 := blk_frozen BK128.out 6
                         have hfz47_7 := blk_frozen BK128.out 7
                         go_wp2
                         repeat (go_quiet (fail); try go_wp2)
                         go_roundg k7
                         case measure => have := HJ2.out; have := HJ10.out; have := HK3.out; have := HJ17.out; have := HK5.out; have := HJ25.out; have := HK7.out; omega
                         case rel => exact ⟨(x5_7), (wrap64 (x9_5 + 1)), (by first | rfl | (simp; done) | (simp [*]; done) | (simp [*, wrap64]; done) | (simp [*]; unfold wrap64; omega)), (by first | rfl | (simp; done) | (simp [*]; done) | (simp [*, wrap64]; done) | (simp [*]; unfold wrap64; omega)), H', ⟨by have := HJ2.out; have := HJ10.out; have := HK3.out; have := HJ17.out; have := HK5.out; have := HJ25.out; have := HK7.out; omega⟩, ⟨by repeat (first | (with_reducible exact HR124_1.out) | (with_reducible refine Kd.C_alloc ?_ _) | (with_reducible refine Kd.C_drewN ?_ _) | (with_reducible refine Kd.C_drew ?_) | exact HR124_1.out)⟩, ⟨by repeat (first | (with_reducible first | exact HI0.out | apply IsS34.alloc | apply IsS34.drewN | apply IsS34.drew | refine IsS34.far ?_ NB0_128.out _) | exact HI0.out)⟩, ⟨by repeat (first | (with_reducible first | exact HK.out | apply KeepBut.set_ | apply keep_drewN | apply keep_drew | apply keep_alloc | refine keep_far ?_ GW128.out _) | exact HK.out)⟩, ⟨by repeat (first | (with_reducible first | exact HB.out | apply below_alloc | apply pw_below_drewN | apply below_drew1 | refine below_set ?_ (IsS34.ge HI0.out) | refine below_set ?_ GE128.out) | exact HB.out)⟩⟩
                       ·rw [if_neg c41] at H
                        have c41b0 : decide (x11_7 < (((rd_T59 ((rd_T44 s0_2 x8_3).f1) x9_5).f1).length : Int)) = false := decide_eq_false c41
                        clear c41
                        have H' := zm H
                        clear H
                        have hnb48 := NB128_0.out
                        have hnc48 := NB0_128.out
                        have hcz49_0 : wr.cell? ⟨gb128, 0, none⟩ = some (.slice A127_0 ((rd_T59 ((rd_T44 s0_2 x8_3).f1) x9_5).f0).length c127_0) := (blk_cell BK128.out 0).trans rfl
                        have hcz49_1 : wr.cell? ⟨gb128, 1, none⟩ = some (.slice A127_1 ((rd_T59 ((rd_T44 s0_2 x8_3).f1) x9_5).f1).length c127_1) := (blk_cell BK128.out 1).trans rfl
                        have hcz49_2 : wr.cell? ⟨gb128, 2, none⟩ = some (.int .i64 ((rd_T59 ((rd_T44 s0_2 x8_3).f1) x9_5).f2.f0)) := (blk_cell BK128.out 2).trans rfl
                        have hcz49_3 : wr.cell? ⟨gb128, 3, none⟩ = some (.int .i64 ((rd_T59 ((rd_T44 s0_2 x8_3).f1) x9_5).f2.f1)) := (blk_cell BK128.out 3).trans rfl
                        have hcz49_4 : wr.cell? ⟨gb128, 4, none⟩ = some (.int .i64 ((rd_T59 ((rd_T44 s0_2 x8_3).f1) x9_5).f2.f2)) := (blk_cell BK128.out 4).trans rfl
                        have hcz49_5 : wr.cell? ⟨gb128, 5, none⟩ = some (.int .i64 ((rd_T59 ((rd_T44 s0_2 x8_3).f1) x9_5).f2.f3)) := (blk_cell BK128.out 5).trans rfl
                        have hcz49_6 : wr.cell? ⟨gb128, 6, none⟩ = some (.slice A127_6 ((rd_T59 ((rd_T44 s0_2 x8_3).f1) x9_5).f2.f4).length c127_6) := (blk_cell BK128.out 6).trans rfl
                        have hcz49_7 : wr.cell? ⟨gb128, 7, none⟩ = some (.slice A127_7 ((rd_T59 ((rd_T44 s0_2 x8_3).f1) x9_5).f2.f5).length c127_7) := (blk_cell BK128.out 7).trans rfl
                        have hfz49_0 := blk_frozen BK128.out 0
                        have hfz49_1 := blk_frozen BK128.out 1
                        have hfz49_2 := blk_frozen BK128.out 2
                        have hfz49_3 := blk_frozen BK128.out 3
                        have hfz49_4 := blk_frozen BK128.out 4
                        have hfz49_5 := blk_frozen BK128.out 5
                        have hfz49_6 := blk_frozen BK128.out 6
                        have hfz49_7 := blk_frozen BK128.out 7
                        go_wp2
                        repeat (go_quiet (fail); try go_wp2)
                        go_roundg k7
                        case measure => have := HJ2.out; have := HJ10.out; have := HK3.out; have := HJ17.out; have := HK5.out; have := HJ25.out; have := HK7.out; omega
                        case rel => exact ⟨(x5_7), (wrap64 (x9_5 + 1)), (by first | rfl | (simp; done) | (simp [*]; done) | (simp [*, wrap64]; done) | (simp [*]; unfold wrap64; omega)), (by first | rfl | (simp; done) | (simp [*]; done) | (simp [*, wrap64]; done) | (simp [*]; unfold wrap64; omega)), H', ⟨by have := HJ2.out; have := HJ10.out; have := HK3.out; have := HJ17.out; have := HK5.out; have := HJ25.out; have := HK7.out; omega⟩, ⟨by repeat (first | (with_reducible exact HR124_1.out) | (with_reducible refine Kd.C_alloc ?_ _) | (with_reducible refine Kd.C_drewN ?_ _) | (with_reducible refine Kd.C_drew ?_) | exact HR124_1.out)⟩, ⟨by repeat (first | (with_reducible first | exact HI0.out | apply IsS34.alloc | apply IsS34.drewN | apply IsS34.drew | refine IsS34.far ?_ NB0_128.out _) | exact HI0.out)⟩, ⟨by repeat (first | (with_reducible first | exact HK.out | apply KeepBut.set_ | apply keep_drewN | apply keep_drew | apply keep_alloc | refine keep_far ?_ GW128.out _) | exact HK.out)⟩, ⟨by repeat (first | (with_reducible first | exact HB.out | apply below_alloc | apply pw_below_drewN | apply below_drew1 | refine below_set ?_ (IsS34.ge HI0.out) | refine below_set ?_ GE128.out) | exact HB.out)⟩⟩
                    ·rw [if_neg c36] at H
                     exact absurd H (by simp)
                   ·rw [if_neg c35] at H
                    exact absurd H (by simp)
                  ·rw [if_neg c34] at H
                   exact absurd H (by simp)
                 ·rw [if_neg c33] at H
                  exact absurd H (by simp)
                ·replace c32 := Bool.eq_false_iff.mpr c32
                 subst c32
                 have H1 : (hallmarkref05_Small.l2 kj25 a1 x5_5 (wrap64 (x8_3 + 1)) s0_0 s0_1 s0_2) = some r := by rw [if_neg (show ¬ (false = true) by decide)] at H; exact H
                 clear H
                 have H := H1
                 clear H1
                 have H' := zm H
                 clear H
                 go_wp2
                 repeat (go_quiet (fail); try go_wp2)
                 go_roundg kj25
                 case measure => have := HJ2.out; have := HJ10.out; have := HK3.out; have := HJ17.out; have := HK5.out; have := HJ25.out; omega
                 case rel => exact ⟨(x5_5), (wrap64 (x8_3 + 1)), (by first | rfl | (simp; done) | (simp [*]; done) | (simp [*, wrap64]; done) | (simp [*]; unfold wrap64; omega)), (by first | rfl | (simp; done) | (simp [*]; done) | (simp [*, wrap64]; done) | (simp [*]; unfold wrap64; omega)), H', ⟨by have := HJ2.out; have := HJ10.out; have := HK3.out; have := HJ17.out; have := HK5.out; have := HJ25.out; omega⟩, ⟨by repeat (first | (with_reducible first | exact HI0.out | apply IsS34.alloc | apply IsS34.drewN | apply IsS34.drew) | exact HI0.out)⟩, ⟨by repeat (first | (with_reducible first | exact HK.out | apply KeepBut.set_ | apply keep_drewN | apply keep_drew | apply keep_alloc) | exact HK.out)⟩, ⟨by repeat (first | (with_reducible first | exact HB.out | apply below_alloc | apply pw_below_drewN | apply below_drew1 | refine below_set ?_ (IsS34.ge HI0.out)) | exact HB.out)⟩⟩
           ·rw [if_neg c24] at H
            exact absurd H (by simp)
          ·rw [if_neg c23] at H
           exact absurd H (by simp)
         ·replace c22 := Bool.eq_false_iff.mpr c22
          subst c22
          have H1 : (some (decide (x5_3 ≤ a1))) = some r := by rw [if_neg (show ¬ (false = true) by decide)] at H; exact H
          clear H
          have H := H1
          clear H1
          obtain rfl := Option.some.inj H
          go_wp2
          repeat (go_quiet (fail); try go_wp2)
          go_ret
          exact ⟨by first | rfl | (simp [errW_none, errW_some] <;> rfl) | (simp [*, errW_none, errW_some] <;> rfl), by repeat (first | (with_reducible first | exact HI0.out | apply IsS34.alloc | apply IsS34.drewN | apply IsS34.drew) | exact HI0.out), by repeat (first | (with_reducible first | exact HB.out | apply below_alloc | apply pw_below_drewN | apply below_drew1 | refine below_set ?_ (IsS34.ge HI0.out)) | exact HB.out), by repeat (first | (with_reducible first | exact HK.out | apply KeepBut.set_ | apply keep_drewN | apply keep_drew | apply keep_alloc) | exact HK.out)⟩

end Go.Proofs.YtojmepkhbebllaaDoor.PShowProgs
