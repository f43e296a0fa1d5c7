-- written by wip/print2.py
import Derived.Test.YtemclhndmcjmmaaPDomEdgesx0
import Derived.Test.YtemclhndmcjmmaaPDomEdgesx1
import Derived.Test.YtemclhndmcjmmaaPDomEdgesx2
namespace Go.Proofs.Ytemclhndmcjmmaa.PDomEdges
open Go.RowKit Go.Proofs.YtemclhndmcjmmaaW.PrintWords Go.Proofs.YtemclhndmcjmmaaW.PrintLast Go.Proofs.YtemclhndmcjmmaaW.PrintMore
attribute [local go_sem] max2_int min2_int max_two min_two max_three min_three max_four min_four   -- for this text's walks alone
set_option linter.unusedVariables false
set_option linter.unusedSimpArgs false

/-! ### cfg_order: function 42 -/
open Go.Shelf Iter
set_option linter.unusedVariables false
set_option linter.unusedSimpArgs false
attribute [local go_sem] Oper.semAt_some
/-- What the walk knows: which blocks were met; the way (a block, how many of its next ones were looked at; the top comes last); which blocks were left. -/
abbrev LS := List Bool × List (Nat × Nat) × List Nat
def lstep (N : Nat) (nb : Nat → List Int) (s : LS) : LS :=
  match s.2.1.getLast? with
  | none => s
  | some t =>
    if t.2 < (nb t.1).length then
      if 0 ≤ (nb t.1).getD t.2 0 ∧ (nb t.1).getD t.2 0 < (N : Int) ∧ s.1.getD ((nb t.1).getD t.2 0).toNat false = false then (s.1.set ((nb t.1).getD t.2 0).toNat true, s.2.1.dropLast ++ [(t.1, t.2 + 1)] ++ [(((nb t.1).getD t.2 0).toNat, 0)], s.2.2)
      else (s.1, s.2.1.dropLast ++ [(t.1, t.2 + 1)], s.2.2)
    else (s.1, s.2.1.dropLast, s.2.2 ++ [t.1])
def lrun (N : Nat) (nb : Nat → List Int) : Nat → LS → LS
  | 0, s => s
  | k + 1, s => lrun N nb k (lstep N nb s)
theorem lrun_nil (N : Nat) (nb : Nat → List Int) (met : List Bool) (out : List Nat) : ∀ k, lrun N nb k (met, [], out) = (met, [], out)
  | 0 => rfl
  | k + 1 => by rw [lrun, show lstep N nb (met, [], out) = (met, [], out) from rfl]; exact lrun_nil N nb met out k
def flat (st : List (Nat × Nat)) : List Value := st.flatMap fun t => [.int .i64 (t.1 : Int), .int .i64 (t.2 : Int)]
theorem flat_append (a b : List (Nat × Nat)) : flat (a ++ b) = flat a ++ flat b := by simp [flat]
theorem flat_length : ∀ st : List (Nat × Nat), (flat st).length = st.length * 2
  | [] => rfl
  | t :: r => by
    have := flat_length r
    simp only [flat, List.flatMap_cons, List.length_append, List.length_cons, List.length_nil] at this ⊢
    omega
theorem flat_top (st : List (Nat × Nat)) (b i : Nat) : (flat (st ++ [(b, i)]))[st.length * 2]? = some (.int .i64 (b : Int)) ∧ (flat (st ++ [(b, i)]))[st.length * 2 + 1]? = some (.int .i64 (i : Int)) := by
  rw [flat_append, ← flat_length]
  constructor
  · rw [List.getElem?_append_right (Nat.le_refl _)]; simp [flat]
  · rw [List.getElem?_append_right (by omega)]; simp [flat]
theorem flat_set (st : List (Nat × Nat)) (b i j : Nat) : (flat (st ++ [(b, i)])).set (st.length * 2 + 1) (.int .i64 (j : Int)) = flat (st ++ [(b, j)]) := by
  rw [flat_append, flat_append, ← flat_length, List.set_append_right _ _ (by omega)]
  simp [flat]
theorem flat_take (st : List (Nat × Nat)) (t : Nat × Nat) : (flat (st ++ [t])).take (st.length * 2) = flat st := by
  rw [flat_append, ← flat_length]; simp
/-- what lies in memory -/
structure LI (J : List Nat → (Nat → Prop) → World → Prop) (T0 : Nat → Prop) (W : World) (met : List Bool) (st : List (Nat × Nat)) (out : List Nat) (vm vs : Value) (T : Nat → Prop) (X : World) : Prop where
  hm : X.ownsRow W.heap.size 4 1 vm met.length (bools met)
  hs : X.ownsRow W.heap.size 78 2 vs st.length (flat st)
  hJ : J out T X
  keep : Keep T0 W X
  tb : ∀ k, T k → (T0 k ∨ W.heap.size ≤ k) ∧ k < X.heap.size
  nm : ∀ k, vm.ownBlock = some k → ¬ T k
  ns : ∀ k, vs.ownBlock = some k → ¬ T k
section
variable {J : List Nat → (Nat → Prop) → World → Prop} {T0 : Nat → Prop} {W : World} {met : List Bool} {st : List (Nat × Nat)} {out : List Nat} {vm vs : Value} {T : Nat → Prop} {X X' : World}
theorem LI.size (h : LI J T0 W met st out vm vs T X) : W.heap.size ≤ X.heap.size := h.keep.size
theorem LI.below (hJ : Stable J) (h : LI J T0 W met st out vm vs T X) (hb : Below X.heap.size X X') : LI J T0 W met st out vm vs T X' :=
  ⟨pw_own_below h.hm hb, pw_own_below h.hs hb, hJ _ _ _ _ h.hJ (Hold.of_below hb (fun k hk => (h.tb k hk).2)), Hold.trans h.keep (Hold.of_below hb (fun k hk => Nat.lt_of_lt_of_le hk.1 h.size)), fun k hk => ⟨(h.tb k hk).1, Nat.lt_of_lt_of_le (h.tb k hk).2 hb.size⟩, h.nm, h.ns⟩
theorem LI.drewN (hJ : Stable J) (h : LI J T0 W met st out vm vs T X) (n : Nat) : LI J T0 W met st out vm vs T (X.drewN n) := h.below hJ (pw_below_drewN (Below.refl _ _) n)
theorem LI.met_ne (h : LI J T0 W met st out vm vs T X) : vm.ownBlock = none ∨ vm.ownBlock ≠ vs.ownBlock := own_type_ne h.hm h.hs (by decide)
theorem LI.st_ne (h : LI J T0 W met st out vm vs T X) : vs.ownBlock = none ∨ vs.ownBlock ≠ vm.ownBlock := own_type_ne h.hs h.hm (by decide)
/-- a step that turns one block of the walk's own -/
theorem LI.turn (hJ : Stable J) (h : LI J T0 W met st out vm vs T X) {g : Nat} (hg : X.grownBy X' (some g)) (hge : W.heap.size ≤ g) (hT : ¬ T g) : J out T X' ∧ Keep T0 W X' ∧ (∀ k, T k → (T0 k ∨ W.heap.size ≤ k) ∧ k < X'.heap.size) :=
  ⟨hJ _ _ _ _ h.hJ ((Hold.refl _ _).grown hg (fun k hk => (h.tb k hk).2) (fun k hk e => by cases e; exact hT hk)), Hold.grown h.keep hg (fun k hk => Nat.lt_of_lt_of_le hk.1 h.size) (fun k hk e => by cases e; have := hk.1; omega), fun k hk => ⟨(h.tb k hk).1, Nat.lt_of_lt_of_le (h.tb k hk).2 hg.size⟩⟩
theorem LI.setAt {g c b i : Nat} (hJ : Stable J) (h : LI J T0 W met (st ++ [(b, i)]) out vm (.slice (some ⟨g, 0, none⟩) (st.length + 1) c) T X) (j : Nat) :
    LI J T0 W met (st ++ [(b, j)]) out vm (.slice (some ⟨g, 0, none⟩) (st.length + 1) c) T (X.setCell ⟨g, st.length * 2 + 1, none⟩ (.int .i64 (j : Int))) := by
  have hl : (st ++ [(b, i)]).length = st.length + 1 := by simp
  have hl2 : (st ++ [(b, j)]).length = st.length + 1 := by simp
  have hs := h.hs
  rw [hl] at hs
  obtain ⟨h1, h2⟩ := hs.stored (st.length * 2 + 1) (.int .i64 (j : Int))
  obtain ⟨t1, t2, t3⟩ := h.turn hJ h2 (own_base hs g rfl) (h.ns g rfl)
  rw [flat_set] at h1
  exact ⟨h.hm.kept h2 (by have := h.met_ne; simpa [Value.ownBlock] using this), by rw [hl2]; exact h1, t1, t2, t3, h.nm, h.ns⟩
theorem LI.setMet {g n c : Nat} (hJ : Stable J) (h : LI J T0 W met st out (.slice (some ⟨g, 0, none⟩) met.length c) vs T X) :
    LI J T0 W (met.set n true) st out (.slice (some ⟨g, 0, none⟩) met.length c) vs T (X.setCell ⟨g, n, none⟩ (.bool true)) := by
  obtain ⟨h1, h2⟩ := h.hm.stored n (.bool true)
  obtain ⟨t1, t2, t3⟩ := h.turn hJ h2 (own_base h.hm g rfl) (h.nm g rfl)
  have he : (bools met).set n (.bool true) = bools (met.set n true) := by simp [bools, List.map_set]
  rw [he] at h1
  exact ⟨by rw [List.length_set]; exact h1, h.hs.kept h2 (by have := h.st_ne; simpa [Value.ownBlock] using this), t1, t2, t3, h.nm, h.ns⟩
theorem LI.pop {g c b i : Nat} (h : LI J T0 W met (st ++ [(b, i)]) out vm (.slice (some ⟨g, 0, none⟩) (st.length + 1) c) T X) : LI J T0 W met st out vm (.slice (some ⟨g, 0, none⟩) st.length c) T X := by
  have hl : (st ++ [(b, i)]).length = st.length + 1 := by simp
  have hs := h.hs
  rw [hl] at hs
  have := own_take hs (m := st.length) (by omega)
  rw [flat_take] at this
  exact ⟨h.hm, this, h.hJ, h.keep, h.tb, h.nm, h.ns⟩
/-- a round -/
theorem LI.round {T' : Nat → Prop} {out' : List Nat} (h : LI J T0 W met st out vm vs T X) (hT' : ∀ k, T' k → (T k ∨ X.heap.size ≤ k) ∧ k < X'.heap.size) (hk : Keep T X X') (hJ : J out' T' X') : LI J T0 W met st out' vm vs T' X' := by
  refine ⟨own_move h.hm (fun k hk' => hk.block k ⟨own_lt h.hm k hk', h.nm k hk'⟩), own_move h.hs (fun k hk' => hk.block k ⟨own_lt h.hs k hk', h.ns k hk'⟩), hJ, h.keep.then_ hk (fun k hk => (h.tb k hk).1), fun k hk' => ⟨?_, (hT' k hk').2⟩, fun k hk' ht => ?_, fun k hk' ht => ?_⟩
  · rcases (hT' k hk').1 with h1 | h1
    · exact (h.tb k h1).1
    · exact .inr (Nat.le_trans h.size h1)
  · rcases (hT' k ht).1 with h1 | h1
    · exact h.nm k hk' h1
    · have := own_lt h.hm k hk'; omega
  · rcases (hT' k ht).1 with h1 | h1
    · exact h.ns k hk' h1
    · have := own_lt h.hs k hk'; omega
/-- an append to the way -/
theorem LI.push {g c g' c' n : Nat} {W2 : World} {p : Nat × Nat} (hJ : Stable J) (h : LI J T0 W met st out vm (.slice (some ⟨g, 0, none⟩) n c) T X) (hb : Below X.heap.size X W2) (hown : X'.ownsRow W.heap.size 78 2 (.slice (some ⟨g', 0, none⟩) (st.length + 1) c') (st.length + 1) (flat st ++ flat [p]))
    (hg : W2.grownBy X' (some g)) (hat : g' = g ∨ W2.heap.size ≤ g') : LI J T0 W met (st ++ [p]) out vm (.slice (some ⟨g', 0, none⟩) (st.length + 1) c') T X' := by
  have h2 := h.below hJ hb
  obtain ⟨t1, t2, t3⟩ := h2.turn hJ hg (own_base h2.hs g rfl) (h2.ns g rfl)
  refine ⟨h2.hm.kept hg (by have := h2.met_ne; simpa [Value.ownBlock] using this), by rw [flat_append, List.length_append]; exact hown, t1, t2, t3, h.nm, fun k hk ht => ?_⟩
  have hk : g' = k := by simpa [Value.ownBlock] using hk
  subst hk
  rcases hat with rfl | hle
  · exact h.ns _ rfl ht
  · have := (h2.tb _ ht).2; omega
end
theorem info4b : (Try.prog.info? 4).map (fun i => (i.zero, i.size, i.bytes)) = some (some (.bool false), 1, 1) := by kernel_rfl
theorem info78b : (Try.prog.info? 78).map (fun i => (i.zero, i.size, i.bytes)) = some (some (.agg #[.int .i64 0, .int .i64 0]), 2, 16) := by kernel_rfl
theorem count_set : ∀ (l : List Bool) (n : Nat), l[n]? = some false → (l.set n true).count false + 1 = l.count false
  | [], n, h => by simp at h
  | x :: r, 0, h => by
    have : x = false := by simpa using h
    subst this
    simp
  | x :: r, n + 1, h => by
    have := count_set r n (by simpa using h)
    simp only [List.set_cons_succ, List.count_cons]
    omega
theorem lstep_out (N : Nat) (nb : Nat → List Int) (s : LS) : s.2.2 <+: (lstep N nb s).2.2 := by
  unfold lstep
  split
  · exact List.prefix_rfl
  · split
    · split <;> exact List.prefix_rfl
    · exact List.prefix_append _ _
theorem lrun_out (N : Nat) (nb : Nat → List Int) : ∀ k s, s.2.2 <+: (lrun N nb k s).2.2
  | 0, s => List.prefix_rfl
  | k + 1, s => (lstep_out N nb s).trans (lrun_out N nb k _)
/-- what one step does at the way's top -/
theorem lstep_on (N : Nat) (nb : Nat → List Int) (met : List Bool) (st : List (Nat × Nat)) (b i : Nat) (out : List Nat) : lstep N nb (met, st ++ [(b, i)], out) =
    if i < (nb b).length then
      if 0 ≤ (nb b).getD i 0 ∧ (nb b).getD i 0 < (N : Int) ∧ met.getD ((nb b).getD i 0).toNat false = false then (met.set ((nb b).getD i 0).toNat true, st ++ [(b, i + 1)] ++ [(((nb b).getD i 0).toNat, 0)], out)
      else (met, st ++ [(b, i + 1)], out)
    else (met, st, out ++ [b]) := by
  unfold lstep
  simp
theorem LI.top {J : List Nat → (Nat → Prop) → World → Prop} {T0 : Nat → Prop} {W : World} {met : List Bool} {st : List (Nat × Nat)} {out : List Nat} {vm : Value} {T : Nat → Prop} {X : World} {g m c b i : Nat} (h : LI J T0 W met (st ++ [(b, i)]) out vm (.slice (some ⟨g, 0, none⟩) (m + 1) c) T X) (hm : st.length = m) :
    X.cell? ⟨g, m * 2, none⟩ = some (.int .i64 (b : Int)) ∧ X.cell? ⟨g, m * 2 + 1, none⟩ = some (.int .i64 (i : Int)) ∧ X.frozen? ⟨g, m * 2 + 1, none⟩ = false ∧ g < X.heap.size ∧ W.heap.size ≤ g := by
  have hs := h.hs
  rw [show (st ++ [(b, i)]).length = m + 1 by simp [hm]] at hs
  exact ⟨by rw [hs.cellAt _ (by omega), ← hm]; exact (flat_top st b i).1, by rw [hs.cellAt _ (by omega), ← hm]; exact (flat_top st b i).2, hs.frozenAt _, own_lt hs g rfl, own_base hs g rfl⟩
theorem LI.metAt {J : List Nat → (Nat → Prop) → World → Prop} {T0 : Nat → Prop} {W : World} {met : List Bool} {st : List (Nat × Nat)} {out : List Nat} {vs : Value} {T : Nat → Prop} {X : World} {g N c q : Nat} (h : LI J T0 W met st out (.slice (some ⟨g, 0, none⟩) N c) vs T X) (hN : met.length = N) (hq : q < N) :
    X.cell? ⟨g, q, none⟩ = some (.bool (met.getD q false)) ∧ X.frozen? ⟨g, q, none⟩ = false := by
  have hm := h.hm
  rw [hN] at hm
  refine ⟨?_, hm.frozenAt _⟩
  rw [hm.cellAt _ (by omega)]
  simp [bools, List.getD_eq_getElem?_getD, List.getElem?_eq_getElem (show q < met.length by omega)]
/-- the relation of the rounds over a block's next ones -/
def LRel2 (J : List Nat → (Nat → Prop) → World → Prop) (T0 : Nat → Prop) (W : World) (N : Nat) (nb : Nat → List Int) (XS : List Nat) (met : List Bool) (st : List (Nat × Nat)) (b : Nat) (out : List Nat) (vm v6 : Value) (T : Nat → Prop) (base g m c k0 : Nat) (hk : Nat) (v4 : Value) (X : World) : Prop :=
  ∃ ia, v4 = .slice (some ⟨g, 0, none⟩) (m + 1) c ∧ LI J T0 W met (st ++ [(b, ia)]) out vm v4 T X ∧ Kd.R (Kd.int .i64) 3 X base (fun _ => True) v6 (nb b) ∧ hk ≤ k0 ∧ ∃ m', lrun N nb hk (met, st ++ [(b, ia)], out) = (m', [], XS)
def nbOf (fb : List S54) (b : Nat) : List Int := (cfg_next.f (rd_T54 fb (b : Int)).f0 (rd_T54 fb (b : Int)).f1 (rd_T54 fb (b : Int)).f2.f0 (rd_T54 fb (b : Int)).f2.f1 (rd_T54 fb (b : Int)).f2.f2 (rd_T54 fb (b : Int)).f2.f3 (rd_T54 fb (b : Int)).f2.f4 (rd_T54 fb (b : Int)).f2.f5).getD []
theorem nbOf_len (fb : List S54) (b : Nat) : (nbOf fb b).length ≤ 2 := by
  unfold nbOf cfg_next.f
  simp only [Option.getD_some]
  split
  · simp
  · split
    · split <;> simp
    · simp
/-- the relation of the walk's rounds -/
def LRel (J : List Nat → (Nat → Prop) → World → Prop) (T0 : Nat → Prop) (W : World) (N : Nat) (nb : Nat → List Int) (XS : List Nat) (gk : Nat) (vm vs : Value) (X : World) : Prop :=
  ∃ met st out T, LI J T0 W met st out vm vs T X ∧ met.length = N ∧ (∀ t ∈ st, t.1 < N) ∧ st.length + met.count false ≤ N ∧ ∃ m', lrun N nb gk (met, st, out) = (m', [], XS)
set_option maxRecDepth 100000 in
set_option maxHeartbeats 8000000 in
theorem left1_gives (F : Fence) (n : Nat) (hF : F = Fence.wide) (hn : 1 ≤ n) (Bn : Nat) (a0 : Int) (A : Option Addr) (c : Nat) (fb : List S54) (hc : fb.length ≤ c) (hN : fb.length ≤ 1099511627776) (w w1 : World) (hBn : Bn < w1.heap.size) (hw : Below w.heap.size w w1)
    (hb : w1.heap[Bn]? = some (.cells #[.int .i64 a0, .slice A fb.length c] 24 (0, 0))) (hC : Kd.C k54 w A fb.length fb) (XS : List Nat) (hXS : XS.length ≤ 1099511627776) (K : Nat) (hne : fb ≠ [])
    (hrun : ∃ m', lrun fb.length (nbOf fb) K ((List.replicate fb.length false).set 0 true, [(0, 0)], []) = (m', [], XS)) :
    Gives F n Try.prog 49 #[.pointer (some ⟨Bn, 0, none⟩)] (fun x : Nat => #[Value.int .i64 (x : Int)]) (fun k => k < w.heap.size ∨ k = Bn) (fun xs => xs = XS) (fun pre x => (pre ++ [x]) <+: XS) w1 := by
  subst hF
  intro l J T0 W hW hJ hT0 hY h0
  have hWw : Below w.heap.size w W := hw.trans (hW.mono hw.size)
  have hbW : W.heap[Bn]? = some (.cells #[.int .i64 a0, .slice A fb.length c] 24 (0, 0)) := (hW.block Bn hBn).trans hb
  have q0 : W.cell? ⟨Bn, 1, none⟩ = some (.slice A fb.length c) := (blk_cell hbW 1).trans rfl
  have hlW : Bn < W.heap.size := Nat.lt_of_lt_of_le hBn hW.size
  have hpos : 0 < fb.length := List.length_pos_iff.2 hne
  have hmk := print_make_of (P := Try.prog) 63 4 (.bool false) 1 Try.underlying63 info4b rfl (by decide) fb.length (by omega)
  have d1 : ((fb.length : Int) == 0) = false := beq_eq_false_iff_ne.mpr (by omega)
  have A1 := Aside0.mk hrun
  clear hrun
  refine callsIn_of_wp Try.func49 rfl trivial ?_ rfl
  simp only [Try.ntmps49, List.size_toArray, List.length_cons, List.length_nil, Nat.reduceAdd, Nat.reduceSub, Array.replicate_succ, Array.replicate_zero, List.push_toArray, List.append_toArray, List.nil_append, List.cons_append]
  have m0 : (madeCells #[Value.bool false] fb.length)[0]? = some (.bool false) := by simp [madeCells, hpos]
  refine wpIn_scope_straight ?_
  gi_wp2
  refine wpIn_label ?_
  gi_wp2
  gi_loopg [4] K (fun gk v4 X => LRel J T0 W fb.length (nbOf fb) XS gk (.slice (some ⟨W.heap.size, 0, none⟩) fb.length fb.length) v4 X)
  case atStart =>
    obtain ⟨m', hr⟩ := A1.out
    refine ⟨(List.replicate fb.length false).set 0 true, [(0, 0)], [], T0, ?_, by simp, by simp [hpos], ?_, m', hr⟩
    rotate_left
    · have := count_set (List.replicate fb.length false) 0 (by simp [hpos])
      simp at this
      simp only [List.length_singleton]
      omega
    have hs1 : (W.alloc (.cells (madeCells #[Value.bool false] fb.length) 4)).heap.size = W.heap.size + 1 := by simp
    have hs2 : ((W.alloc (.cells (madeCells #[Value.bool false] fb.length) 4)).alloc (.cells #[.int .i64 0, .int .i64 0] 78)).heap.size = W.heap.size + 2 := by simp
    have hb2 : Below W.heap.size W ((W.alloc (.cells (madeCells #[Value.bool false] fb.length) 4)).alloc (.cells #[.int .i64 0, .int .i64 0] 78)) := below_alloc (below_alloc (Below.refl _ _) _) _
    have o1 := own_made_of (enc := Value.bool) (d := false) W W.heap.size 4 fb.length (Nat.le_refl _) (by omega)
    have o2 := World.ownsRow_lit (base := W.heap.size) (e := 78) (size := 2) (W.alloc (.cells (madeCells #[Value.bool false] fb.length) 4)) #[.int .i64 0, .int .i64 0] 1 (by simp) (by decide) rfl
    rw [hs1] at o2
    have L0 : LI J T0 W (List.replicate fb.length false) [(0, 0)] [] (.slice (some ⟨W.heap.size, 0, none⟩) fb.length fb.length) (.slice (some ⟨W.heap.size + 1, 0, none⟩) 1 1) T0 ((W.alloc (.cells (madeCells #[Value.bool false] fb.length) 4)).alloc (.cells #[.int .i64 0, .int .i64 0] 78)) := by
      refine ⟨?_, o2, hJ _ _ _ _ h0 (Hold.of_below hb2 (fun k hk => (hT0 k hk).1)), Keep.of_below hb2, fun k hk => ⟨.inl hk, by have := (hT0 k hk).1; omega⟩, ?_, ?_⟩
      · rw [List.length_replicate]; exact own_alloc o1 _
      · rintro k hk ht
        have hk : W.heap.size = k := by simpa [Value.ownBlock] using hk
        have := (hT0 k ht).1; omega
      · rintro k hk ht
        have hk : W.heap.size + 1 = k := by simpa [Value.ownBlock] using hk
        have := (hT0 k ht).1; omega
    have L1 := LI.setMet (n := 0) (c := fb.length) hJ (by rw [List.length_replicate]; exact L0)
    rw [List.length_replicate] at L1
    have hweq : ((W.alloc (.cells (madeCells #[Value.bool false] fb.length) 4)).alloc (.cells #[.int .i64 0, .int .i64 0] 78)).setCell ⟨W.heap.size, 0, none⟩ (.bool true) = (W.alloc (.cells ((madeCells #[Value.bool false] fb.length).setIfInBounds 0 (.bool true)) 4)).alloc (.cells #[.int .i64 0, .int .i64 0] 78) := by simp [go_sem]
    rw [← hweq]
    exact L1
  case round =>
    obtain ⟨met, st, out, T, hL, hml, hst, hct, m', hr⟩ := hrel
    have hml' := Aside0.mk hml
    have hr' := Aside0.mk hr
    clear hr m0 hml
    rcases List.eq_nil_or_concat st with hst0 | ⟨st0, ⟨b, ia⟩, hst0⟩
    · subst hst0
      obtain ⟨A', c', rfl⟩ := own_slice hL.hs
      have hLs := Aside0.mk hL
      clear hL
      gi_wp2
      rw [Exit.noGoto_normal]
      go_end0
      have hfin := hr'.out
      rw [lrun_nil] at hfin
      have hx : out = XS := congrArg (fun s : LS => s.2.2) hfin
      exact ⟨⟨_, rfl⟩, out, T, hx, hLs.out.hJ, hLs.out.keep, hLs.out.tb⟩
    · rw [List.concat_eq_append] at hst0
      subst hst0
      obtain ⟨gko, rfl⟩ : ∃ x, x = gk := ⟨_, rfl⟩
      obtain ⟨wo, rfl⟩ : ∃ x, x = wr := ⟨_, rfl⟩
      obtain ⟨m, hm⟩ : ∃ m, st0.length = m := ⟨_, rfl⟩
      have hlen : (st0 ++ [(b, ia)]).length = m + 1 := by simp [hm]
      have hsX := hL.hs
      rw [hlen] at hsX
      obtain ⟨g, c', rfl, hgb, hgl⟩ := hsX.form (by omega)
      have hbN : b < fb.length := hst (b, ia) (by simp)
      have hmle : m + 1 ≤ 1099511627776 := by rw [hlen] at hct; omega
      have q1 : wo.cell? ⟨g, m * 2, none⟩ = some (.int .i64 (b : Int)) := by rw [hsX.cellAt _ (by omega), ← hm]; exact (flat_top st0 b ia).1
      have q2 : wo.cell? ⟨g, m * 2 + 1, none⟩ = some (.int .i64 (ia : Int)) := by rw [hsX.cellAt _ (by omega), ← hm]; exact (flat_top st0 b ia).2
      have qf2 : wo.frozen? ⟨g, m * 2 + 1, none⟩ = false := hsX.frozenAt _
      have hbW2 := Keep.below hL.keep (n := w.heap.size) hWw.size (fun k hk => by have := (hT0 k hk).2; omega)
      have hCX := Kd.C_below hC (hWw.trans hbW2)
      obtain ⟨ad, A0, c0, A1', c1, A6, c6, A7, c7, rfl, k0, k1, k2, k3, k4, k5, k6, k7, f0, g0, f1, g1, f2, g2, f3, g3⟩ := at_T54 hCX (b : Int) (by omega) (by omega)
      simp only [Int.toNat_natCast] at k0 k1 k2 k3 k4 k5 k6 k7
      have q0r : wo.cell? ⟨Bn, 1, none⟩ = some (.slice (some ad) fb.length c) := hL.keep.cell q0 ⟨hlW, fun h => (hT0 _ h).2 (.inr rfl)⟩
      have e1 : wrap64 (((m + 1 : Nat) : Int) - 1) = (m : Int) := by unfold wrap64; omega
      have hLs := Aside0.mk hL
      have hst' := Aside0.mk hst
      have hm' := Aside0.mk hm
      have hsX' := Aside0.mk hsX
      have hlen' := Aside0.mk hlen
      clear hL hst hm hsX hlen
      gi_wp2
      rename_i Q1 K0 hK0 K1 hK1
      have g0' : Kd.C (Kd.int .i64) wo.drew A0 (rd_T54 fb (b : Int)).f0.length (rd_T54 fb (b : Int)).f0 := g0
      have g1' : Kd.C k98 wo.drew A1' (rd_T54 fb (b : Int)).f1.length (rd_T54 fb (b : Int)).f1 := g1
      have g2' : Kd.C (Kd.int .i64) wo.drew A6 (rd_T54 fb (b : Int)).f2.f4.length (rd_T54 fb (b : Int)).f2.f4 := g2
      have g3' : Kd.C (Kd.int .i64) wo.drew A7 (rd_T54 fb (b : Int)).f2.f5.length (rd_T54 fb (b : Int)).f2.f5 := g3
      clear g0 g1 g2 g3
      have hnb : cfg_next.f (rd_T54 fb (b : Int)).f0 (rd_T54 fb (b : Int)).f1 (rd_T54 fb (b : Int)).f2.f0 (rd_T54 fb (b : Int)).f2.f1 (rd_T54 fb (b : Int)).f2.f2 (rd_T54 fb (b : Int)).f2.f3 (rd_T54 fb (b : Int)).f2.f4 (rd_T54 fb (b : Int)).f2.f5 = some (nbOf fb b) := rfl
      have hnb' := Aside0.mk hnb
      clear hnb
      gi_region_with (refine ⟨trivial, ?_⟩; gi_at_call 38; refine (callsIn_wide.2 (cfg_next.calls A0 c0 _ A1' c1 _ _ _ _ _ A6 c6 _ A7 c7 _ (nbOf fb b) _ g0' f0 g1' f1 g2' f2 g3' f3 hnb'.out)).mono ?_; rintro e w2 ⟨v6, rfl, hR6, hb6⟩)
      all_goals
        have hbw : Below wo.heap.size wo w2 := ⟨hb6.os, hb6.tape, hb6.output, hb6.size, hb6.block⟩
        have hLw := Aside0.mk (hLs.out.below hJ hbw)
        have hR6w := Aside0.mk hR6
        have hgo : g < wo.heap.size := own_lt hsX'.out g rfl
        clear hR6 hb6 hbw g0' g1' g2' g3' f0 f1 f2 f3 k0 k1 k2 k3 k4 k5 k6 k7 q1 q2 qf2 q0r hCX e1 hbW2 hgl
        go_simp
        gi_wp2
        gi_loopg [4] gko (LRel2 J T0 W fb.length (nbOf fb) XS met st0 b out (.slice (some ⟨W.heap.size, 0, none⟩) fb.length fb.length) v6 T wo.heap.size g m c' gko)
        case atStart =>
          exact ⟨ia, rfl, hLw.out, hR6w.out, Nat.le_refl _, m', hr'.out⟩
        case round =>
          obtain ⟨ja, rfl, hL, hR, hle, m2, hr2⟩ := hrel
          have hk : gk ≠ 0 := by
            rintro rfl
            have := congrArg (fun s : LS => s.2.1) hr2
            simp [lrun] at this
          obtain ⟨k, rfl⟩ : ∃ x, gk = x + 1 := ⟨gk - 1, by omega⟩
          rw [lrun, lstep_on] at hr2
          obtain ⟨t1, t2, t3, t4, t5⟩ := hL.top hm'.out
          obtain ⟨A6', c6', rfl, hc6, hC6⟩ := Kd.R_reads hR
          have hbX := hWw.trans (Keep.below hL.keep (n := w.heap.size) hWw.size (fun k hk => by have := (hT0 k hk).2; omega))
          have hBX : Bn < wr.heap.size := Nat.lt_of_lt_of_le hlW hL.size
          have hT0B : ¬ T0 Bn := fun h => (hT0 _ h).2 (.inr rfl)
          have hgB : Bn ≠ g := by omega
          have hR' := Aside0.mk hR
          have hL' := Aside0.mk hL
          clear hR hL
          by_cases hj : ja < (nbOf fb b).length
          · rw [if_pos hj] at hr2
            have hrA := Aside0.mk hr2
            clear hr2
            obtain ⟨ad6, rfl, q6⟩ := Kd.at_int hC6 (ja : Int) (by omega) (by omega)
            simp only [Int.toNat_natCast] at q6
            obtain ⟨nn, hnn⟩ : ∃ nn, rd (nbOf fb b) (ja : Int) = nn := ⟨_, rfl⟩
            have hnn' : (nbOf fb b).getD ja 0 = nn := hnn
            rw [hnn] at q6
            have L1 : LI J T0 W met (st0 ++ [(b, ja + 1)]) out (.slice (some ⟨W.heap.size, 0, none⟩) fb.length fb.length) (.slice (some ⟨g, 0, none⟩) (m + 1) c') T (wr.setCell ⟨g, m * 2 + 1, none⟩ (.int .i64 ((ja : Int) + 1))) := by
              have := LI.setAt (st := st0) (i := ja) (g := g) (c := c') hJ (by rw [hm'.out]; exact hL'.out) (ja + 1)
              rw [hm'.out] at this
              exact this
            obtain ⟨X1, hX1⟩ : ∃ X1, wr.setCell ⟨g, m * 2 + 1, none⟩ (.int .i64 ((ja : Int) + 1)) = X1 := ⟨_, rfl⟩
            have hL1 := Aside0.mk L1
            have hC1 : Kd.C k54 (wr.setCell ⟨g, m * 2 + 1, none⟩ (.int .i64 ((ja : Int) + 1))) (some ad) fb.length fb := Kd.C_below hC (hWw.trans (Keep.below L1.keep (n := w.heap.size) hWw.size (fun k hk => by have := (hT0 k hk).2; omega)))
            have r0 := hL'.out.keep.cell ((blk_cell hbW 0).trans rfl : W.cell? ⟨Bn, 0, none⟩ = some (.int .i64 a0)) ⟨hlW, hT0B⟩
            have r1 := hL'.out.keep.cell q0 ⟨hlW, hT0B⟩
            clear L1 hX1 X1
            have d3 : decide ((ja : Int) < ((nbOf fb b).length : Int)) = true := decide_eq_true (by omega)
            have d3n : decide (ja < (nbOf fb b).length) = true := decide_eq_true (by omega)
            have e2 : wrap64 ((ja : Int) + 1) = (ja : Int) + 1 := by
              have := nbOf_len fb b
              unfold wrap64; omega
            have hnA := Aside0.mk hnn'
            clear hnn hnn'
            by_cases hth : 0 ≤ nn ∧ nn < (fb.length : Int)
            · obtain ⟨hn0, hn1⟩ := hth
              obtain ⟨q, rfl⟩ : ∃ q : Nat, nn = q := ⟨nn.toNat, by omega⟩
              have hthf : cfg_there.f a0 fb (q : Int) = some true := by unfold cfg_there.f; rw [if_pos (by omega)]; simp; omega
              have hq : q < fb.length := by omega
              cases hmq : met.getD q false with
              | true =>
                have hmA := Aside0.mk hmq
                clear hmq hn0 hn1
                gi_wp2_with (refine ⟨trivial, ?_⟩; gi_at_call 39; refine (callsIn_wide.2 (cfg_there.calls a0 (some ad) c fb (q : Int) true _ hC1 hc hthf)).mono ?_; rintro e w3 ⟨rfl, hb3⟩; have hL3 := Aside0.mk (hL1.out.below hJ hb3); have hb3' := Aside0.mk hb3; obtain ⟨z1, z2⟩ := hL3.out.metAt hml'.out hq; rw [hmA.out] at z1; clear hb3)
                gi_roundg k
                case measure => omega
                case rel =>
                  refine ⟨ja + 1, rfl, hL3.out, Kd.R_below (Kd.R_mono (Kd.R_far (p := ⟨g, m * 2 + 1, none⟩) (Kd.R_bound hR'.out) (fun k hk => by have : wo.heap.size ≤ k := hk.2.1; show k ≠ g; omega) (.int .i64 ((ja : Int) + 1))) (fun _ _ => trivial)) hb3'.out, by omega, m2, ?_⟩
                  have := hrA.out
                  rw [hnA.out, if_neg (fun h => by rw [Int.toNat_natCast, hmA.out] at h; exact absurd h.2.2 (by decide))] at this
                  exact this
              | false =>
                have hmA := Aside0.mk hmq
                clear hmq hn0 hn1
                gi_wp2_with (first
                  | (refine ⟨trivial, ?_⟩; gi_at_call 39; refine (callsIn_wide.2 (cfg_there.calls a0 (some ad) c fb (q : Int) true _ hC1 hc hthf)).mono ?_; rintro e w3 ⟨rfl, hb3⟩; have hL3 := Aside0.mk (hL1.out.below hJ hb3); have hb3' := Aside0.mk hb3; obtain ⟨z1, z2⟩ := hL3.out.metAt hml'.out hq; rw [hmA.out] at z1; have hL4 := Aside0.mk (show LI J T0 W (met.set q true) (st0 ++ [(b, ja + 1)]) out (.slice (some ⟨W.heap.size, 0, none⟩) fb.length fb.length) (.slice (some ⟨g, 0, none⟩) (m + 1) c') T (w3.setCell ⟨W.heap.size, q, none⟩ (.bool true)) from by have := LI.setMet (n := q) (g := W.heap.size) (c := fb.length) hJ (by rw [hml'.out]; exact hL3.out); rw [hml'.out] at this; exact this); clear hb3)
                  | (gi_at_builtin; go_loud (refine own_appendIn (W := w3.setCell ⟨W.heap.size, q, none⟩ (.bool true)) W.heap.size rfl _ _ 79 78 (.agg #[.int .i64 0, .int .i64 0]) 2 16 rfl Try.underlying79 info78b rfl (by decide) (by decide) (.slice (some ⟨g, 0, none⟩) (m + 1) c') (m + 1) (flat (st0 ++ [(b, ja + 1)])) [.int .i64 (q : Int), .int .i64 0] rfl (by rw [show (w3.setCell ⟨W.heap.size, q, none⟩ (.bool true)).heap.size = w3.heap.size from by simp]; rfl) rfl (by intro u hu; simp at hu; rcases hu with rfl | rfl <;> rfl) (by have := hL4.out.hs; rw [List.length_append, hm'.out] at this; exact this) hL4.out.size (by omega) ?_); intro g4 c4 w5 hown5 hg5 hat5; have A51 := Aside0.mk hown5; have A52 := Aside0.mk hg5; have A53 := Aside0.mk hat5; clear hown5 hg5 hat5))
                gi_roundg k
                case measure => omega
                case rel =>
                  have hp := LI.push (st := st0 ++ [(b, ja + 1)]) (p := (q, 0)) (g := g) (n := m + 1) (c := c') (g' := g4) (c' := c4) hJ hL4.out (below_alloc (Below.refl _ _) _) (by rw [List.length_append, hm'.out]; exact A51.out) A52.out (by
                    rcases A53.out with h | h
                    · exact .inl (by have : g = g4 := by simpa [Value.ownBlock] using h
                                     exact this.symm)
                    · exact .inr (by simpa using h))
                  refine ⟨met.set q true, st0 ++ [(b, ja + 1)] ++ [(q, 0)], out, T, by rw [List.length_append, hm'.out] at hp; exact hp, by rw [List.length_set]; exact hml'.out, ?_, ?_, m2, ?_⟩
                  · intro t ht
                    simp only [List.mem_append, List.mem_singleton] at ht
                    rcases ht with (ht | rfl) | rfl
                    · exact hst'.out t (List.mem_append_left _ ht)
                    · exact hst'.out (b, ia) (by simp)
                    · exact hq
                  · have hcs := count_set met q (by
                      have hlt : q < met.length := by rw [hml'.out]; exact hq
                      have := hmA.out
                      rw [List.getD_eq_getElem?_getD, List.getElem?_eq_getElem hlt] at this
                      rw [List.getElem?_eq_getElem hlt]
                      simpa using this)
                    simp only [List.length_append, List.length_singleton] at hct ⊢
                    omega
                  · have := hrA.out
                    rw [hnA.out, if_pos (by simp only [Int.toNat_natCast]; exact ⟨by omega, by omega, hmA.out⟩)] at this
                    simpa only [Int.toNat_natCast] using this
            · have hthf : cfg_there.f a0 fb nn = some false := by
                unfold cfg_there.f
                by_cases h0 : nn ≥ 0
                · rw [if_pos h0, decide_eq_false (by omega)]
                · rw [if_neg h0]
              have hthA := Aside0.mk hth
              clear hth
              gi_wp2_with (refine ⟨trivial, ?_⟩; gi_at_call 39; refine (callsIn_wide.2 (cfg_there.calls a0 (some ad) c fb nn false _ hC1 hc hthf)).mono ?_; rintro e w3 ⟨rfl, hb3⟩; have hL3 := Aside0.mk (hL1.out.below hJ hb3); have hb3' := Aside0.mk hb3; clear hb3)
              gi_roundg k
              case measure => omega
              case rel =>
                refine ⟨ja + 1, rfl, hL3.out, Kd.R_below (Kd.R_mono (Kd.R_far (p := ⟨g, m * 2 + 1, none⟩) (Kd.R_bound hR'.out) (fun k hk => by have : wo.heap.size ≤ k := hk.2.1; show k ≠ g; omega) (.int .i64 ((ja : Int) + 1))) (fun _ _ => trivial)) hb3'.out, by omega, m2, ?_⟩
                have := hrA.out
                rw [hnA.out, if_neg (fun h => hthA.out ⟨h.1, h.2.1⟩)] at this
                exact this
          · rw [if_neg hj] at hr2
            have hrA := Aside0.mk hr2
            clear hr2
            have hpre : (out ++ [b]) <+: XS := by
              have := lrun_out fb.length (nbOf fb) k (met, st0, out ++ [b])
              rw [hrA.out] at this
              exact this
            obtain ⟨fn, tmps, assign, body, hy, hRd⟩ := hY out b T wr hL'.out.hJ hpre hL'.out.keep hL'.out.tb
            have hcut := cut_to (P := Try.prog) 79 78 .i64 Try.underlying79 (Option.map_eq_some_iff.1 info78b).choose_spec.1 (some ⟨g, 0, none⟩) (m + 1) c' (m : Int) (by omega) (by omega) (own_cap hsX'.out)
            simp only [Int.toNat_natCast] at hcut
            have d3 : decide ((ja : Int) < ((nbOf fb b).length : Int)) = false := decide_eq_false (by omega)
            have d3n : decide (ja < (nbOf fb b).length) = false := decide_eq_false (by omega)
            have A2 := Aside0.mk hpre
            clear hpre hj
            gi_wp2
            refine hRd.mono ?_
            rintro e w4 ⟨rfl, T', hT', hk4, hJ4⟩
            have L4 := Aside0.mk (LI.pop (st := st0) (g := g) (c := c') (b := b) (i := ja) (by rw [hm'.out]; exact hL'.out.round hT' hk4 hJ4))
            gi_wp2
            gi_roundg k
            case measure => omega
            case rel =>
              refine ⟨met, st0, out ++ [b], T', by have := L4.out; rw [hm'.out] at this; exact this, hml'.out, fun t ht => hst'.out t (List.mem_append_left _ ht), ?_, m2, hrA.out⟩
              simp only [List.length_append, List.length_singleton] at hct
              omega
/-- the blocks as the walk leaves them -/
def leftOf (fb : List S54) : Option (List Nat) :=
  if fb = [] then some [] else
    if (lrun fb.length (nbOf fb) (4 * fb.length + 4) ((List.replicate fb.length false).set 0 true, [(0, 0)], [])).2.1 = [] ∧ fb.length ≤ 1099511627776 ∧ (lrun fb.length (nbOf fb) (4 * fb.length + 4) ((List.replicate fb.length false).set 0 true, [(0, 0)], [])).2.2.length ≤ 1099511627776
    then some (lrun fb.length (nbOf fb) (4 * fb.length + 4) ((List.replicate fb.length false).set 0 true, [(0, 0)], [])).2.2 else none
set_option maxHeartbeats 1000000 in
theorem left_in (F : Fence) (n : Nat) (h24 : F.fn 45) (hro : F.round = none) (a0 : Int) (A : Option Addr) (m c : Nat) (w : World) :
    CallsIn F n Try.prog 45 #[.agg #[.int .i64 a0, .slice A m c]] w fun e w' => e = .returned (.func (.func 49) #[] #[.pointer (some ⟨w.heap.size, 0, none⟩)]) ∧ w' = w.alloc (.cells #[.int .i64 a0, .slice A m c] 24) := by
  refine callsIn_of_wp Try.func45 rfl h24 ?_ hro
  simp only [Try.ntmps45, List.size_toArray, List.length_cons, List.length_nil, Nat.reduceAdd, Nat.reduceSub, Array.replicate_succ, Array.replicate_zero, List.push_toArray, List.append_toArray, List.nil_append, List.cons_append]
  gi_wp2
  go_ret
  exact ⟨rfl, rfl⟩
set_option maxRecDepth 100000 in
set_option maxHeartbeats 2000000 in
theorem left1_nil (n : Nat) (hn : 1 ≤ n) (Bn : Nat) (a0 : Int) (A : Option Addr) (c : Nat) (R : Nat → Prop) (hR : ∀ k, R k → k = Bn → True) (w1 : World) (hBn : Bn < w1.heap.size)
    (hb : w1.heap[Bn]? = some (.cells #[.int .i64 a0, .slice A 0 c] 24 (0, 0))) (N : List Nat → Nat → Prop) :
    Gives Fence.wide n Try.prog 49 #[.pointer (some ⟨Bn, 0, none⟩)] (fun x : Nat => #[Value.int .i64 (x : Int)]) R (fun xs => xs = []) N w1 := by
  intro l J T0 W hW hJ hT0 hY h0
  have hbW : W.heap[Bn]? = some (.cells #[.int .i64 a0, .slice A 0 c] 24 (0, 0)) := (hW.block Bn hBn).trans hb
  have q0 : W.cell? ⟨Bn, 1, none⟩ = some (.slice A 0 c) := (blk_cell hbW 1).trans rfl
  refine callsIn_of_wp Try.func49 rfl trivial ?_ rfl
  simp only [Try.ntmps49, List.size_toArray, List.length_cons, List.length_nil, Nat.reduceAdd, Nat.reduceSub, Array.replicate_succ, Array.replicate_zero, List.push_toArray, List.append_toArray, List.nil_append, List.cons_append]
  refine wpIn_scope_straight ?_
  gi_wp2
  refine bodyPost_ret (results_none rfl _ _ _) rfl ?_
  exact ⟨⟨_, rfl⟩, T0, h0, Hold.refl _ _, fun k hk => ⟨.inl hk, (hT0 k hk).1⟩⟩
/-- the iterator's contract, at all lists of blocks -/
theorem left_gives (n : Nat) (hn : 1 ≤ n) (Bn : Nat) (a0 : Int) (A : Option Addr) (c : Nat) (fb : List S54) (hc : fb.length ≤ c) (w w1 : World) (hBn : Bn < w1.heap.size) (hw : Below w.heap.size w w1)
    (hb : w1.heap[Bn]? = some (.cells #[.int .i64 a0, .slice A fb.length c] 24 (0, 0))) (hC : Kd.C k54 w A fb.length fb) (XS : List Nat) (h : leftOf fb = some XS) :
    Gives Fence.wide n Try.prog 49 #[.pointer (some ⟨Bn, 0, none⟩)] (fun x : Nat => #[Value.int .i64 (x : Int)]) (fun k => k < w.heap.size ∨ k = Bn) (fun xs => xs = XS) (fun pre x => (pre ++ [x]) <+: XS) w1 := by
  unfold leftOf at h
  by_cases hf : fb = []
  · subst hf
    rw [if_pos rfl] at h
    obtain rfl := Option.some.inj h
    exact left1_nil n hn Bn a0 A c _ (fun _ _ _ => trivial) w1 hBn hb _
  · rw [if_neg hf] at h
    split at h
    · rename_i hh
      obtain ⟨h1, h2, h3⟩ := hh
      obtain rfl := Option.some.inj h
      exact left1_gives Fence.wide n rfl hn Bn a0 A c fb hc h2 w w1 hBn hw hb hC _ h3 (4 * fb.length + 4) hf ⟨_, Prod.ext rfl (Prod.ext h1 rfl)⟩
    · cases h
theorem leftOf_len {fb : List S54} {XS : List Nat} (h : leftOf fb = some XS) : XS.length ≤ 1099511627776 := by
  unfold leftOf at h
  split at h
  · obtain rfl := Option.some.inj h; simp
  · split at h
    · rename_i hh
      obtain rfl := Option.some.inj h
      exact hh.2.2
    · cases h
theorem lstep_lt (N : Nat) (nb : Nat → List Int) (s : LS) (h1 : ∀ t ∈ s.2.1, t.1 < N) (h2 : ∀ x ∈ s.2.2, x < N) : (∀ t ∈ (lstep N nb s).2.1, t.1 < N) ∧ ∀ x ∈ (lstep N nb s).2.2, x < N := by
  obtain ⟨met, st, out⟩ := s
  rcases List.eq_nil_or_concat st with hst | ⟨st0, ⟨b, i⟩, hst⟩
  · subst hst; exact ⟨h1, h2⟩
  · rw [List.concat_eq_append] at hst
    subst hst
    have hb : b < N := h1 (b, i) (by simp)
    have h0 : ∀ t ∈ st0, t.1 < N := fun t ht => h1 t (List.mem_append_left _ ht)
    have h3 : ∀ j, ∀ t ∈ st0 ++ [(b, j)], t.1 < N := fun j t ht => by
      rcases List.mem_append.1 ht with h | h
      · exact h0 t h
      · rw [List.mem_singleton.1 h]; exact hb
    rw [lstep_on]
    split
    · split
      · rename_i hn
        refine ⟨fun t ht => ?_, h2⟩
        rcases List.mem_append.1 ht with h | h
        · exact h3 _ t h
        · rw [List.mem_singleton.1 h]
          have := hn.1; have := hn.2.1
          show ((nb b).getD i 0).toNat < N
          omega
      · exact ⟨h3 _, h2⟩
    · refine ⟨h0, fun x hx => ?_⟩
      rcases List.mem_append.1 hx with h | h
      · exact h2 x h
      · rw [List.mem_singleton.1 h]; exact hb
theorem lrun_lt (N : Nat) (nb : Nat → List Int) : ∀ (k : Nat) (s : LS), (∀ t ∈ s.2.1, t.1 < N) → (∀ x ∈ s.2.2, x < N) → ∀ x ∈ (lrun N nb k s).2.2, x < N
  | 0, s, _, h2 => h2
  | k + 1, s, h1, h2 => lrun_lt N nb k _ (lstep_lt N nb s h1 h2).1 (lstep_lt N nb s h1 h2).2
theorem leftOf_lt {fb : List S54} {XS : List Nat} (h : leftOf fb = some XS) : ∀ x ∈ XS, x < fb.length := by
  unfold leftOf at h
  split at h
  · obtain rfl := Option.some.inj h; simp
  · rename_i hf
    split at h
    · obtain rfl := Option.some.inj h
      have hpos : 0 < fb.length := List.length_pos_iff.2 hf
      exact lrun_lt _ _ _ _ (by simp [hpos]) (by simp)
    · cases h
theorem leftOf_n {fb : List S54} {XS : List Nat} (h : leftOf fb = some XS) : fb.length ≤ 1099511627776 := by
  unfold leftOf at h
  split at h
  · rename_i hf; simp [hf]
  · split at h
    · rename_i hh; exact hh.2.1
    · cases h
theorem rev_l (l : List Int) (hl : l.length ≤ 140737488355328) : ∀ (d k i : Nat) (x : List Int), l.length - 2 * i ≤ d → d < k → 2 * i ≤ l.length + 1 → x.length = l.length → (∀ t, t < l.length → x.getD t 0 = if t < i ∨ l.length - i ≤ t then l.getD (l.length - 1 - t) 0 else l.getD t 0) →
    slices_Reverse_int_int.l0 k x (i : Int) ((l.length : Int) - 1 - (i : Int)) = some l.reverse := by
  intro d
  induction d using Nat.strongRecOn with
  | _ d ih =>
    intro k i x hd hk h2 hx ht
    obtain ⟨k, rfl⟩ : ∃ m, k = m + 1 := ⟨k - 1, by omega⟩
    by_cases hij : (i : Int) < (l.length : Int) - 1 - (i : Int)
    · have hj : ((l.length : Int) - 1 - (i : Int)) = ((l.length - 1 - i : Nat) : Int) := by omega
      rw [hj] at hij ⊢
      have e1 : wrap64 ((i : Int) + 1) = ((i + 1 : Nat) : Int) := by clear ih; unfold wrap64; omega
      have e2 : wrap64 (((l.length - 1 - i : Nat) : Int) - 1) = (l.length : Int) - 1 - ((i + 1 : Nat) : Int) := by clear ih; unfold wrap64; omega
      have g1 : (0 : Int) ≤ ((l.length - 1 - i : Nat) : Int) := Int.natCast_nonneg _
      have g2 : ((l.length - 1 - i : Nat) : Int) < (x.length : Int) := by omega
      have g3 : (0 : Int) ≤ (i : Int) := Int.natCast_nonneg _
      have g4 : (i : Int) < (x.length : Int) := by omega
      rw [slices_Reverse_int_int.l0, if_pos hij, if_pos g1, if_pos g2, if_pos g3, if_pos g4, e1, e2]
      have hd2 : l.length - 2 * (i + 1) < d := by clear e1 e2 ih; omega
      refine ih (l.length - 2 * (i + 1)) hd2 k (i + 1) _ (Nat.le_refl _) (by clear e1 e2 ih; omega) (by clear e1 e2 ih; omega) (by simp [hx]) ?_
      intro t htl
      have a1 := ht i (by clear e1 e2 ih; omega)
      have a2 := ht (l.length - 1 - i) (by clear e1 e2 ih; omega)
      have a3 := ht t htl
      have r1 : rd x ((l.length - 1 - i : Nat) : Int) = l.getD (l.length - 1 - i) 0 := by
        unfold rd; rw [Int.toNat_natCast, a2, if_neg (by clear e1 e2 ih; omega)]
      have r2 : rd x (i : Int) = l.getD i 0 := by
        unfold rd; rw [Int.toNat_natCast, a1, if_neg (by clear e1 e2 ih; omega)]
      rw [r1, r2, Int.toNat_natCast, Int.toNat_natCast]
      by_cases t1 : t = l.length - 1 - i
      · subst t1
        rw [List.getD_eq_getElem?_getD, List.getElem?_set_self (by simp; clear e1 e2 ih; omega), if_pos (.inr (by clear e1 e2 ih; omega))]
        rw [show l.length - 1 - (l.length - 1 - i) = i by clear e1 e2 ih; omega]; rfl
      · by_cases t2 : t = i
        · subst t2
          rw [List.getD_eq_getElem?_getD, List.getElem?_set_ne (by clear e1 e2 ih; omega), List.getElem?_set_self (by clear e1 e2 ih; omega), if_pos (.inl (by clear e1 e2 ih; omega))]; rfl
        · rw [List.getD_eq_getElem?_getD, List.getElem?_set_ne (by clear e1 e2 ih; omega), List.getElem?_set_ne (by clear e1 e2 ih; omega), ← List.getD_eq_getElem?_getD, a3]
          by_cases c : t < i ∨ l.length - i ≤ t
          · rw [if_pos c, if_pos (by clear e1 e2 ih; omega)]
          · rw [if_neg c, if_neg (by clear e1 e2 ih; omega)]
    · rw [slices_Reverse_int_int.l0, if_neg hij]
      congr 1
      apply List.ext_getElem
      · simp [hx]
      · intro t h1 h3
        have a3 := ht t (by omega)
        rw [List.getD_eq_getElem?_getD, List.getElem?_eq_getElem h1, Option.getD_some] at a3
        rw [a3, List.getElem_reverse]
        by_cases c : t < i ∨ l.length - i ≤ t
        · rw [if_pos c, List.getD_eq_getElem?_getD, List.getElem?_eq_getElem (by omega), Option.getD_some]
        · rw [if_neg c, List.getD_eq_getElem?_getD, List.getElem?_eq_getElem (by omega), Option.getD_some]
          congr 1
          omega
theorem rev_is (l : List Int) (hl : l.length ≤ 140737488355328) : slices_Reverse_int_int.f (l.length + 1) l = some l.reverse := by
  unfold slices_Reverse_int_int.f
  have e : wrap64 ((l.length : Int) - 1) = (l.length : Int) - 1 - ((0 : Nat) : Int) := by unfold wrap64; omega
  rw [e]
  exact rev_l l hl l.length (l.length + 1) 0 l (by omega) (by omega) (by omega) rfl (fun t ht => by rw [if_neg (by omega)])
def ints (l : List Nat) : List Int := l.map (fun b : Nat => (b : Int))
theorem ints_length (l : List Nat) : (ints l).length = l.length := List.length_map _
theorem ints_snoc (l : List Nat) (x : Nat) : ints (l ++ [x]) = ints l ++ [(x : Int)] := List.map_append
def cfg_order.f (a0_0 : Int) (l0_1 : List (S54)) : Option (List Int) := (leftOf l0_1).map (fun o => (ints o).reverse)
set_option maxRecDepth 100000 in
set_option maxHeartbeats 8000000 in
theorem cfg_order.calls (a0_0 : Int) (A0_1 : Option Addr) (c0_1 : Nat) (l0_1 : List (S54)) (r : List Int) (w : World) (hr0_1 : Kd.C k54 w A0_1 l0_1.length l0_1) (hc0_1 : l0_1.length ≤ c0_1) (h : cfg_order.f a0_0 l0_1 = some r) :
    Calls Try.prog 42 #[.agg #[.int .i64 a0_0, .slice A0_1 l0_1.length c0_1]] w fun e w' => ∃ v0_ : Value, e = .returned (v0_) ∧ Kd.R (Kd.int .i64) 3 w' w.heap.size (fun _ => True) v0_ r ∧ Below w.heap.size w w' := by
  unfold cfg_order.f at h
  obtain ⟨XS, hXS, hr⟩ := Option.map_eq_some_iff.1 h
  have hlen := leftOf_len hXS
  have hX := Aside0.mk hXS
  have hr' := Aside0.mk hr
  clear h hr hXS
  refine (callsIn_wide (n := 6)).1 ?_
  refine callsIn_of_wp_marks Try.func42 rfl trivial ?_ rfl
  simp only [Try.ntmps42, List.size_toArray, List.length_cons, List.length_nil, Nat.reduceAdd, Nat.reduceSub, Array.replicate_succ, Array.replicate_zero, List.push_toArray, List.append_toArray, List.nil_append, List.cons_append]
  gi_wp2_with (refine ⟨trivial, ?_⟩; gi_at_call 45; refine (left_in Fence.wide 5 trivial rfl _ _ _ _ _).mono ?_; rintro e w' ⟨rfl, rfl⟩)
  obtain ⟨W0, hW0⟩ : ∃ W0, (((w.alloc (.cells #[.int .i64 a0_0, .slice A0_1 l0_1.length c0_1] 24)).alloc (.cells #[.slice none 0 0] 26)).alloc (.cells #[.int .i64 a0_0, .slice A0_1 l0_1.length c0_1] 24)) = W0 := ⟨_, rfl⟩
  have hB0 : Below w.heap.size w W0 := by rw [← hW0]; exact below_alloc (below_alloc (below_alloc (Below.refl _ _) _) _) _
  have hs0 : W0.heap.size = w.heap.size + 3 := by rw [← hW0]; simp
  have hbO : Boxed W0 (w.heap.size + 1) 26 (.slice none 0 0) := by
    have := (Boxed.new (w.alloc (.cells #[.int .i64 a0_0, .slice A0_1 l0_1.length c0_1] 24)) 26 (.slice none 0 0)).alloc (.cells #[.int .i64 a0_0, .slice A0_1 l0_1.length c0_1] 24)
    rw [hW0, World.size_alloc] at this; exact this
  have hbE : W0.heap[w.heap.size + 1 + 1]? = some (.cells #[.int .i64 a0_0, .slice A0_1 l0_1.length c0_1] 24 (0, 0)) := by
    have := heap_alloc_new ((w.alloc (.cells #[.int .i64 a0_0, .slice A0_1 l0_1.length c0_1] 24)).alloc (.cells #[.slice none 0 0] 26)) (.cells #[.int .i64 a0_0, .slice A0_1 l0_1.length c0_1] 24)
    rw [hW0, World.size_alloc, World.size_alloc] at this; exact this
  rw [hW0]
  clear hW0
  refine wpIn_range (F := Fence.wide) (n := 6) (α := Nat) rfl (by decide) (gf := 49) (lb := #[.pointer (some ⟨w.heap.size + 1 + 1, 0, none⟩)]) rfl trivial (enters_of Try.func49 (by kernel_rfl) rfl)
    (left_gives 5 (by decide) (w.heap.size + 1 + 1) a0_0 A0_1 c0_1 l0_1 hc0_1 w W0 (by omega) hB0 hbE hr0_1 XS hX.out) (Below.refl _ _) (fun _ => rfl)
    (fun pre T W => T (w.heap.size + 1) ∧ ∃ v, Boxed W (w.heap.size + 1) 26 v ∧ Kd.R (Kd.int .i64) 3 W w.heap.size (fun k => T k ∧ k ≠ w.heap.size + 1) v (ints pre))
    ?stable (fun k => k = w.heap.size + 1) ?start ?own ?reads ?round ?done
  case stable =>
    rintro s T A B ⟨hT, v, hv, hR⟩ hh
    exact ⟨hT, v, (hh.block _ hT).trans hv, hh.row hR (fun k hk => hk.1)⟩
  case start => exact ⟨rfl, _, hbO, Kd.R_nil _ _ _ _ _⟩
  case own => rintro k rfl; exact ⟨by omega, by omega⟩
  case reads => rintro k (hk | rfl) <;> omega
  case round =>
    rintro pre x T W ⟨hT, v, hv, hR⟩ hlenp hsz hTs hkp
    have hpl : pre.length < XS.length := by have := hlenp.length_le; simp at this; omega
    have hmlen : (ints pre).length = pre.length := ints_length _
    obtain ⟨A, c, rfl⟩ := Kd.R_slice hR
    have hA2 := Aside0.mk hR
    have hA3 := Aside0.mk hTs
    have hA5 := Aside0.mk hs0
    have hBW : w.heap.size + 1 < W.heap.size := by omega
    have hA6 := Aside0.mk hmlen
    have hv' := Aside0.mk hv
    clear hR hTs hs0 hkp hmlen hv
    gi_wp2
    refine ⟨Hold.refl _ _, fun W2 hs2 hh2 => ?_⟩
    have hv2 : Boxed W2 (w.heap.size + 1) 26 (.slice A (ints pre).length c) := (hh2.block _ (by have := hA5.out; omega)).trans hv'.out
    have hR2 := hh2.row hA2.out (fun k hk => by
      have := hA5.out
      rcases (hA3.out k hk.1).1 with h | h
      · omega
      · omega)
    have qc := hv2.cell
    have qf := hv2.frozen
    have hA4 := Aside0.mk hs2
    have hR2' := Aside0.mk hR2
    have hh2' := Aside0.mk hh2
    clear hs2 hR2 hh2
    gi_wp2_with (gi_at_builtin; refine R_appendIn (Kd.int .i64) w.heap.size rfl _ _ 26 3 (.int .i64 0) 8 rfl Try.underlying26 info3 rfl (by decide) (by decide) (.slice A (ints pre).length c) (ints pre) (x : Int) [.int .i64 (x : Int)] (fun k => (T k ∨ W.heap.size ≤ k) ∧ k ≠ w.heap.size + 1) (fun _ => False) rfl rfl rfl (fun k hk => hk.elim) (fun k hk => by have := hA4.out; exact ⟨.inr (by omega), by omega⟩) (Kd.R_mono hR2'.out (fun k hk => ⟨.inl hk.1, hk.2⟩)) (by have := hA4.out; omega) (by have := hA6.out; omega) ?_; intro g cap w1 hR1 hg1 hat; have hv3 : Boxed w1 (w.heap.size + 1) 26 (.slice A (ints pre).length c) := Boxed.kept (W := W2) hv2 hg1 (fun e => (hR2'.out.1 _ e.symm).2 rfl); have hc3 := hv3.cell; have hf3 := hv3.frozen; have hR1' := Aside0.mk hR1; have hg1' := Aside0.mk hg1; have hat' := Aside0.mk hat; clear hR1 hg1 hat)
    have hs3 : W2.heap.size ≤ w1.heap.size := hg1'.out.size
    have hs2 := hA4.out
    refine ⟨fun k => (T k ∨ W.heap.size ≤ k) ∧ k < w1.heap.size, fun k hk => ⟨hk.1, by simpa [World.setCell] using hk.2⟩, ?_, ⟨.inl hT, by omega⟩, _, hv3.set _, ?_⟩
    · exact ((Hold.refl (fun k => k < W.heap.size ∧ ¬ T k) W2).grown hg1'.out (fun k hk => by omega) (fun k hk e => hk.2 (hR2'.out.1 k e.symm).1)).setCell ⟨w.heap.size + 1, 0, none⟩ _ (fun h => h.2 hT)
    · rw [ints_snoc]
      exact Kd.R_mono (Kd.R_far (p := ⟨w.heap.size + 1, 0, none⟩) (Kd.R_bound hR1'.out) (fun k hk => hk.1.2) _) (fun k hk => ⟨⟨hk.1.1, hk.2.2.1⟩, hk.1.2⟩)
  case done =>
    rintro D xs T W hD rfl ⟨hT, v, hv, hR⟩ hK hkp hTs
    have hc := hv.cell
    have hBW : Below w.heap.size w W := hB0.trans (Keep.below hkp (by omega) (fun k hk => by omega))
    have hrv := rev_is (ints xs) (by rw [ints_length]; omega)
    have hTD : ¬ (T D ∧ D ≠ w.heap.size + 1) := fun h => by rcases (hTs D h.1).1 with h1 | h1 <;> omega
    have hK' := Aside0.mk hK
    have hR' := Aside0.mk hR
    have hrv' := Aside0.mk hrv
    have hv' := Aside0.mk hv
    have hTD' := Aside0.mk hTD
    have hTs' := Aside0.mk hTs
    have hD' := Aside0.mk hD
    have hs0' := Aside0.mk hs0
    clear hK hR hrv hkp hTs hD hs0
    gi_wp2_with (refine ⟨trivial, ?_⟩; gi_at_call 46; refine (callsIn_wide.2 (slices_Reverse_int_int.calls _ (fun k => T k ∧ k ≠ w.heap.size + 1) v _ _ w _ hBW hR'.out hrv'.out)).mono ?_; rintro e w3 ⟨rfl, hR3, hB3, hk3⟩; have hv3 : Boxed w3 (w.heap.size + 1) 26 v := (hk3.2 _ hv'.out.lt (fun h => h.2 rfl)).trans hv'.out; have hc3 := hv3.cell; have hK3 := Aside0.mk ((hk3.2 D (Array.getElem?_eq_some_iff.1 hK'.out).1 hTD'.out).trans hK'.out); have hR3' := Aside0.mk hR3; have hk3' := Aside0.mk hk3; have hB3' := Aside0.mk hB3; clear hR3 hk3 hB3)
    have hs0 := hs0'.out
    have hD := hD'.out
    refine ⟨by simp, .inl ⟨_, _, rfl, run_takeDeferred hK3.out, ?_⟩⟩
    refine ⟨_, results_tmp rfl _ _ _, v, rfl, ?_, ?_⟩
    · have hR3 := hR3'.out
      rw [hr'.out] at hR3
      have hlt := (Array.getElem?_eq_some_iff.1 hK3.out).1
      have hltW := (Array.getElem?_eq_some_iff.1 hK'.out).1
      exact Kd.R_mono (Kd.R_step hR3 (fun k hk _ => World.putObj_heap_other (fun e => by
        subst e
        rcases hk with hk | hk
        · exact hTD'.out hk
        · omega))) (fun _ _ => trivial)
    · exact hB3'.out.trans ((Hold.putObj _ _ _).below_ (fun k hk => by omega))

/-! ### cfg_Order: function 34 -/
def cfg_Order.f (a0_0 : Int) (l0_1 : List (S54)) : Option (List Int) := (cfg_order.f a0_0 l0_1).bind fun t132 => (some t132)
set_option maxHeartbeats 8000000 in
set_option maxRecDepth 100000 in
theorem cfg_Order.calls (a0_0 : Int) (A0_1 : Option Addr) (c0_1 : Nat) (l0_1 : List (S54)) (r : List Int) (w : World) (hr0_1 : Kd.C k54 w A0_1 l0_1.length l0_1) (hc0_1 : l0_1.length ≤ c0_1) (h : cfg_Order.f a0_0 l0_1 = some r) :
    Calls Try.prog 34 #[.agg #[.int .i64 a0_0, .slice A0_1 l0_1.length c0_1]] w fun e w' => ∃ v0_ : Value, e = .returned (v0_) ∧ Kd.R (Kd.int .i64) 3 w' w.heap.size (fun _ => True) v0_ r ∧ Below w.heap.size w w' := by
  have hu24 := Try.underlying24
  have HR0_1 := Aside0.mk hr0_1
  have HC0_1 := Aside0.mk hc0_1
  clear hr0_1 hc0_1
  have HB := Aside0.mk (Below.refl w.heap.size w)
  have H : ((cfg_order.f a0_0 l0_1).bind fun t132 => (some t132)) = some r := h
  clear h
  replace H := Option.bind_eq_some_iff.mp H
  obtain ⟨t132, A20, H⟩ := H
  replace H : (some t132) = some r := H
  have A2 := Aside0.mk A20
  clear A20
  obtain rfl := Option.some.inj H
  go_enter Try.func34, Try.ntmps34
  go_wp2_with (first | ((with_reducible refine gate_dst (N := 1) rfl ?_); refine box_event ?hg (N := 1) ?hd (cs := #[.int .i64 a0_0, .slice A0_1 l0_1.length c0_1]) (t := 24) ?hr ?_; (case hd => rfl); (case hg => rfl); (case hr => first | (go_simp; done) | (go_simp; rfl)); intro gb131 hg w3 hbox hb; have n0_ := Aside0.mk (below_step (by repeat (first | (with_reducible first | exact HB.out | apply below_alloc | apply pw_below_drewN | apply below_drew1) | exact HB.out)) hb); have n1_ := Aside0.mk (hbox); have n2_ := Aside0.mk ((by rw [hg]; exact (below_size (by repeat (first | (with_reducible first | exact HB.out | apply below_alloc | apply pw_below_drewN | apply below_drew1) | exact HB.out))) : w.heap.size ≤ gb131)); have n3_ := Aside0.mk ((by rw [hg]; exact (below_size (by repeat (first | (with_reducible first | exact HB.out | apply below_alloc | apply pw_below_drewN | apply below_drew1) | exact HB.out))) : w.heap.size ≤ gb131)); clear HB; have HB := n0_; have BK131 := n1_; have GW131 := n2_; have GE131 := n3_; clear n0_ n1_ n2_ n3_; clear hb hbox hg; have hcz4_0 : w3.cell? ⟨gb131, 0, none⟩ = some (.int .i64 a0_0) := (blk_cell BK131.out 0).trans rfl; have hcz4_1 : w3.cell? ⟨gb131, 1, none⟩ = some (.slice A0_1 l0_1.length c0_1) := (blk_cell BK131.out 1).trans rfl; have hfz4_0 := blk_frozen BK131.out 0; have hfz4_1 := blk_frozen BK131.out 1) | ((with_reducible refine gate_callee (f := 42) rfl ?_); refine goesL_ (some 4) rfl rfl Try.func42 (by kernel_rfl) rfl #[.agg #[.int .i64 a0_0, .slice A0_1 l0_1.length c0_1]] rfl (by (try simp only [List.map_toArray, List.map_cons, List.map_nil]); first | done | rfl | (simp only [List.length_drop, List.length_take]; rfl)) ?_; (with_reducible refine (cfg_order.calls a0_0 _ _ l0_1 t132 _ ?side1 ?side2 A2.out).mono ?_); (case side1 => repeat (first | exact (Kd.C_below HR0_1.out HB.out) | (with_reducible refine Kd.C_alloc ?_ _) | (with_reducible refine Kd.C_drewN ?_ _) | (with_reducible refine Kd.C_drew ?_))); (case side2 => exact HC0_1.out); rintro e w5 ⟨v133, rfl, ho0, hb⟩; refine ⟨_, rfl, ?_⟩; have n0_ := Aside0.mk (Kd.R_lower ho0 (below_size (by repeat (first | (with_reducible first | exact HB.out | apply below_alloc | apply pw_below_drewN | apply below_drew1 | refine below_set ?_ GE131.out) | exact HB.out)))); have n1_ := Aside0.mk (blk_below (g := gb131) (o := .cells #[.int .i64 a0_0, .slice A0_1 l0_1.length c0_1] 24 (0, 0)) (by (with_reducible repeat (first | refine blk_drewN ?_ _ | refine blk_drew ?_ | refine blk_alloc ?_ _)); exact BK131.out) hb); have n2_ := Aside0.mk (below_step (by repeat (first | (with_reducible first | exact HB.out | apply below_alloc | apply pw_below_drewN | apply below_drew1 | refine below_set ?_ GE131.out) | exact HB.out)) hb); clear BK131; clear HB; have HO134 := n0_; have BK131 := n1_; have HB := n2_; clear n0_ n1_ n2_; (try clear hb); (try clear hb2); (try clear hk); (try clear hi); (try clear ho0)))
  go_ret
  exact ⟨_, by first | rfl | (simp [errW_none, errW_some] <;> rfl) | (simp [*, errW_none, errW_some] <;> rfl), by (with_reducible repeat (first | apply Kd.R_alloc | apply Kd.R_drewN | apply Kd.R_drew)); exact HO134.out, by repeat (first | (with_reducible first | exact HB.out | apply below_alloc | apply pw_below_drewN | apply below_drew1 | refine below_set ?_ GE131.out) | exact HB.out)⟩

end Go.Proofs.Ytemclhndmcjmmaa.PDomEdges
