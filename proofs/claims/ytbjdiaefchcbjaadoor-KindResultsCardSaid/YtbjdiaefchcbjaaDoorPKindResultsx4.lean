-- written by wip/print2.py
import Derived.Test.YtbjdiaefchcbjaaDoorPKindResultsx0
import Derived.Test.YtbjdiaefchcbjaaDoorPKindResultsx3
namespace Go.Proofs.YtbjdiaefchcbjaaDoor.PKindResults
open Go.RowKit Go.Proofs.YtbjdiaefchcbjaaDoorW.PrintWords Go.Proofs.YtbjdiaefchcbjaaDoorW.PrintLast Go.Proofs.YtbjdiaefchcbjaaDoorW.PrintMore
attribute [local go_sem] max2_int min2_int max_two min_two max_three min_three max_four min_four   -- for this text's walks alone
set_option linter.unusedVariables false
set_option linter.unusedSimpArgs false

/-! ### kind_uses: function 30 -/
open Go.Shelf Iter
attribute [local go_sem] Oper.semAt_some
theorem index_ge : ∀ (l : List UInt8) (c : UInt8), (l.contains c = true → 0 ≤ Lib.indexByte l c) ∧ (l.contains c = false → Lib.indexByte l c = -1)
  | [], c => by simp [Lib.indexByte]
  | b :: l, c => by
    obtain ⟨h1, h2⟩ := index_ge l c
    by_cases e : b = c
    · subst e; simp [Lib.indexByte]
    · have e1 : (b == c) = false := beq_eq_false_iff_ne.2 e
      have e2 : (c == b) = false := beq_eq_false_iff_ne.2 (fun h => e h.symm)
      have e3 : (b :: l).contains c = l.contains c := by rw [List.contains_cons, e2, Bool.false_or]
      rw [e3]
      unfold Lib.indexByte
      rw [e1]
      refine ⟨fun h => ?_, fun h => ?_⟩
      · have := h1 h
        have e4 : (Lib.indexByte l c == -1) = false := beq_eq_false_iff_ne.2 (by omega)
        rw [e4]; simp; omega
      · rw [h2 h]; simp
theorem index_yes (f : ByteArray) (c : Int) (w : World) (h : f.data.toList.contains c.toNat.toUInt8 = true) :
    Calls Tryd.prog 38 #[.string f, .int .u8 c] w fun e w' => ∃ t : Int, 0 ≤ t ∧ e = .returned (.int .i64 t) ∧ w' = w :=
  (Tryd.strings_IndexByte f c w).mono fun e w' h' => ⟨_, (index_ge _ _).1 h, h'.1, h'.2⟩
theorem index_no (f : ByteArray) (c : Int) (w : World) (h : f.data.toList.contains c.toNat.toUInt8 = false) :
    Calls Tryd.prog 38 #[.string f, .int .u8 c] w fun e w' => e = .returned (.int .i64 (-1)) ∧ w' = w :=
  (Tryd.strings_IndexByte f c w).mono fun e w' h' => ⟨by rw [h'.1, (index_ge _ _).2 h], h'.2⟩
set_option maxHeartbeats 1000000 in
theorem operands_in (F : Fence) (n : Nat) (h31 : F.fn 31) (hro : F.round = none) (Bo : Nat) (w : World) :
    CallsIn F n Tryd.prog 31 #[.pointer (some ⟨Bo, 0, none⟩)] w fun e w' => e = .returned (.func (.func 37) #[] #[.pointer (some ⟨w.heap.size, 0, none⟩)]) ∧
      w' = w.alloc (.cells #[.pointer (some ⟨Bo, 0, none⟩)] 51) := by
  refine callsIn_of_wp Tryd.func31 rfl h31 ?_ hro
  simp only [Tryd.ntmps31, List.size_toArray, List.length_cons, List.length_nil, Nat.reduceAdd, Nat.reduceSub, Array.replicate_succ, Array.replicate_zero, List.push_toArray, List.append_toArray, List.nil_append, List.cons_append]
  gi_wp2
  go_ret
  exact ⟨rfl, rfl⟩
/-- The places of the values that a step is of: those of the fields, ahead of place i; and those of its list. -/
def ops1 (K : Int) (Bo i : Nat) : List Addr := (if 0 < i ∧ hasF K 65 = true then [⟨Bo, 1, none⟩] else []) ++ (if 1 < i ∧ hasF K 66 = true then [⟨Bo, 2, none⟩] else []) ++ (if 2 < i ∧ hasF K 67 = true then [⟨Bo, 3, none⟩] else [])
def ops2 (A : Option Addr) (i : Nat) : List Addr := match A with | some ad => (List.range i).map ad.add | none => []
def opsAll (K : Int) (Bo : Nat) (A : Option Addr) (m : Nat) : List Addr := ops1 K Bo 3 ++ ops2 A m
structure RdO (Bn Bo : Nat) (K : Int) (A6 : Option Addr) (m c : Nat) (W : World) : Prop where
  p : W.cell? ⟨Bn, 0, none⟩ = some (.pointer (some ⟨Bo, 0, none⟩))
  k : W.cell? ⟨Bo, 0, none⟩ = some (.int .i64 K)
  l : W.cell? ⟨Bo, 6, none⟩ = some (.slice A6 m c)
  laid : Door.Laid W
structure St1 (J : List Addr → (Nat → Prop) → World → Prop) (T0 : Nat → Prop) (w' : World) (Bo : Nat) (xs : List Addr) (T : Nat → Prop) (X : World) : Prop where
  hJ : J xs T X
  keep : Keep T0 w' X
  tb : ∀ k, T k → (T0 k ∨ w'.heap.size ≤ k) ∧ k < X.heap.size
  nB : ¬ T w'.heap.size
  arr : X.heap[w'.heap.size]? = some (.cells #[.pointer (some ⟨Bo, 1, none⟩), .pointer (some ⟨Bo, 2, none⟩), .pointer (some ⟨Bo, 3, none⟩)] 52 (0, 0))
theorem St1.on {J : List Addr → (Nat → Prop) → World → Prop} {T0 : Nat → Prop} {w' : World} {Bo : Nat} {xs xs' : List Addr} {T T' : Nat → Prop} {X X' : World} (h : St1 J T0 w' Bo xs T X)
    (hT' : ∀ k, T' k → (T k ∨ X.heap.size ≤ k) ∧ k < X'.heap.size) (hk : Keep T X X') (hJ : J xs' T' X') : St1 J T0 w' Bo xs' T' X' := by
  have hlt : w'.heap.size < X.heap.size := (Array.getElem?_eq_some_iff.1 h.arr).1
  refine ⟨hJ, h.keep.then_ hk (fun k hk => (h.tb k hk).1), fun k hk => ⟨?_, (hT' k hk).2⟩, fun hB => ?_, (hk.block _ ⟨hlt, h.nB⟩).trans h.arr⟩
  · rcases (hT' k hk).1 with h1 | h1
    · exact (h.tb k h1).1
    · exact .inr (by omega)
  · rcases (hT' _ hB).1 with h1 | h1
    · exact h.nB h1
    · omega
theorem ops1_pre (K : Int) (Bo i : Nat) (A : Option Addr) (m : Nat) (hi : i ≤ 3) : ops1 K Bo i <+: opsAll K Bo A m := by
  unfold opsAll ops1
  match i, hi with
  | 0, _ => simp
  | 1, _ => simp only [Nat.zero_lt_one, true_and, Nat.lt_irrefl, false_and, if_false, List.append_nil]; cases hasF K 65 <;> simp
  | 2, _ => simp only [show 0 < 2 from by omega, show 1 < 2 from by omega, true_and, Nat.lt_irrefl, false_and, if_false, List.append_nil]; cases hasF K 65 <;> cases hasF K 66 <;> simp
  | 3, _ => simp
set_option maxHeartbeats 4000000 in
set_option maxRecDepth 100000 in
theorem operands1_gives (n : Nat) (hn : 1 ≤ n) (Bn Bo : Nat) (K : Int) (A6 : Option Addr) (m c : Nat) (hmc : m ≤ c) (hm : m < 17592186044416) (hA : 0 < m → ∃ ad, A6 = some ad) (w : World) :
    GivesW Fence.wide n Tryd.prog 37 #[.pointer (some ⟨Bn, 0, none⟩)] (fun a : Addr => #[.pointer (some a)]) (RdO Bn Bo K A6 m c) (fun xs => xs = opsAll K Bo A6 m) (fun pre x => (pre ++ [x]) <+: opsAll K Bo A6 m) w := by
  intro l J T0 W hW hJ hT0 hRd hY h0
  obtain ⟨q1, q2, q3, hG⟩ := hRd _ _ _ h0
  obtain ⟨f, hf⟩ : ∃ f, fieldsL K = f := ⟨_, rfl⟩
  have HF := Aside0.mk hf
  have HG := Aside0.mk hG
  have HRD := Aside0.mk hRd
  have HY := Aside0.mk hY
  have HT0 := Aside0.mk hT0
  have HMC := Aside0.mk hmc
  have HJ0 := Aside0.mk h0
  have HA := Aside0.mk hA
  clear hf hG hRd hY hT0 hmc h0 hA
  refine callsIn_of_wp Tryd.func37 rfl trivial ?_ rfl
  simp only [Tryd.ntmps37, List.size_toArray, List.length_cons, List.length_nil, Nat.reduceAdd, Nat.reduceSub, Array.replicate_succ, Array.replicate_zero, List.push_toArray, List.append_toArray, List.nil_append, List.cons_append]
  gi_wp2_with (refine ⟨trivial, ?_⟩; gi_at_call 28; refine (callsIn_wide.2 (fieldsOf_same K _ HG.out)).mono ?_; rintro e w' ⟨rfl, rfl⟩; rw [HF.out])
  gi_region
  gi_wp2
  obtain ⟨W1, hW1⟩ : ∃ W1, (w'.alloc (.cells #[.pointer (some ⟨Bo, 1, none⟩), .pointer (some ⟨Bo, 2, none⟩), .pointer (some ⟨Bo, 3, none⟩)] 52)).drew = W1 := ⟨_, rfl⟩
  have hst0 : St1 J T0 w' Bo [] T0 W1 := by
    rw [← hW1]
    refine ⟨hJ _ _ _ _ HJ0.out ((Hold.alloc (Hold.refl _ _) _ (fun k hk => HT0.out k hk)).drew), (Keep.alloc (Hold.refl _ _) _).drew, fun k hk => ⟨.inl hk, by have := HT0.out k hk; simp; omega⟩, fun h => by have := HT0.out _ h; omega, heap_alloc_new w' _⟩
  have HST0 := Aside0.mk hst0
  rw [hW1]
  clear hW1 hst0 q1 q2 q3
  gi_loopg [23] 3 (fun gk v23 X => ∃ (i : Nat) (T : Nat → Prop), v23 = .int .i64 i ∧ i ≤ 3 ∧ gk + i = 3 ∧ Aside0 (St1 J T0 w' Bo (ops1 K Bo i) T X))
  case atStart => exact ⟨0, T0, rfl, by omega, rfl, ⟨by simpa [ops1] using HST0.out⟩⟩
  case round =>
    obtain ⟨i, T, rfl, hi, hgk, HS⟩ := hrel
    clear HST0
    have hrd := HRD.out _ _ _ HS.out.hJ
    have ha0 := blk_cell HS.out.arr 0
    have ha1 := blk_cell HS.out.arr 1
    have ha2 := blk_cell HS.out.arr 2
    by_cases hlt : i < 3
    · obtain rfl | rfl | rfl : i = 0 ∨ i = 1 ∨ i = 2 := by omega
      · have hpre := ops1_pre K Bo 1 A6 m (by omega)
        by_cases hF : hasF K 65 = true
        · have hcn : f.data.toList.contains 65 = true := by have := hF; unfold hasF at this; rw [HF.out] at this; exact this
          have hops : ops1 K Bo 1 = ops1 K Bo 0 ++ [⟨Bo, 1, none⟩] := by simp [ops1, hF]
          obtain ⟨fn, tmps, assign, body, hy, hR⟩ := HY.out _ ⟨Bo, 1, none⟩ T wr HS.out.hJ (by rw [← hops]; exact hpre) HS.out.keep HS.out.tb
          have HR := Aside0.mk hR
          have HOPS := Aside0.mk hops
          clear hR hops hpre hrd hlt hi
          gi_wp2_with (first
            | (refine ⟨trivial, ?_⟩; gi_at_call 38; refine (callsIn_wide.2 (index_yes f 65 wr hcn)).mono ?_; rintro e w'' ⟨t, ht0, rfl, rfl⟩))
          refine HR.out.mono ?_
          rintro e W3 ⟨rfl, T3, hT3, hk3, hJ3⟩
          have HS3 := Aside0.mk (HS.out.on hT3 hk3 hJ3)
          clear hT3 hk3 hJ3
          gi_wp2
          gi_roundg 2
          case rel => exact ⟨1, T3, by first | rfl | go_num, by omega, by omega, ⟨by rw [HOPS.out]; exact HS3.out⟩⟩
          case measure => omega
        · have hF' : hasF K 65 = false := by simpa using hF
          have hcn : f.data.toList.contains 65 = false := by have := hF'; unfold hasF at this; rw [HF.out] at this; exact this
          have hops : ops1 K Bo 1 = ops1 K Bo 0 := by simp [ops1, hF']
          have HOPS := Aside0.mk hops
          clear hops hpre hrd hlt hi hF hF'
          gi_wp2_with (first
            | (refine ⟨trivial, ?_⟩; gi_at_call 38; refine (callsIn_wide.2 (index_no f 65 wr hcn)).mono ?_; rintro e w'' ⟨rfl, rfl⟩))
          refine ⟨fun _ h => (by cases h), ?_⟩
          gi_wp2
          gi_roundg 2
          case rel => exact ⟨1, T, by first | rfl | go_num, by omega, by omega, ⟨by rw [HOPS.out]; exact HS.out⟩⟩
          case measure => omega
      · have hpre := ops1_pre K Bo 2 A6 m (by omega)
        by_cases hF : hasF K 66 = true
        · have hcn : f.data.toList.contains 66 = true := by have := hF; unfold hasF at this; rw [HF.out] at this; exact this
          have hops : ops1 K Bo 2 = ops1 K Bo 1 ++ [⟨Bo, 2, none⟩] := by simp [ops1, hF]
          obtain ⟨fn, tmps, assign, body, hy, hR⟩ := HY.out _ ⟨Bo, 2, none⟩ T wr HS.out.hJ (by rw [← hops]; exact hpre) HS.out.keep HS.out.tb
          have HR := Aside0.mk hR
          have HOPS := Aside0.mk hops
          clear hR hops hpre hrd hlt hi
          gi_wp2_with (first
            | (refine ⟨trivial, ?_⟩; gi_at_call 38; refine (callsIn_wide.2 (index_yes f 66 wr hcn)).mono ?_; rintro e w'' ⟨t, ht0, rfl, rfl⟩))
          refine HR.out.mono ?_
          rintro e W3 ⟨rfl, T3, hT3, hk3, hJ3⟩
          have HS3 := Aside0.mk (HS.out.on hT3 hk3 hJ3)
          clear hT3 hk3 hJ3
          gi_wp2
          gi_roundg 1
          case rel => exact ⟨2, T3, by first | rfl | go_num, by omega, by omega, ⟨by rw [HOPS.out]; exact HS3.out⟩⟩
          case measure => omega
        · have hF' : hasF K 66 = false := by simpa using hF
          have hcn : f.data.toList.contains 66 = false := by have := hF'; unfold hasF at this; rw [HF.out] at this; exact this
          have hops : ops1 K Bo 2 = ops1 K Bo 1 := by simp [ops1, hF']
          have HOPS := Aside0.mk hops
          clear hops hpre hrd hlt hi hF hF'
          gi_wp2_with (first
            | (refine ⟨trivial, ?_⟩; gi_at_call 38; refine (callsIn_wide.2 (index_no f 66 wr hcn)).mono ?_; rintro e w'' ⟨rfl, rfl⟩))
          refine ⟨fun _ h => (by cases h), ?_⟩
          gi_wp2
          gi_roundg 1
          case rel => exact ⟨2, T, by first | rfl | go_num, by omega, by omega, ⟨by rw [HOPS.out]; exact HS.out⟩⟩
          case measure => omega
      · have hpre := ops1_pre K Bo 3 A6 m (by omega)
        by_cases hF : hasF K 67 = true
        · have hcn : f.data.toList.contains 67 = true := by have := hF; unfold hasF at this; rw [HF.out] at this; exact this
          have hops : ops1 K Bo 3 = ops1 K Bo 2 ++ [⟨Bo, 3, none⟩] := by simp [ops1, hF]
          obtain ⟨fn, tmps, assign, body, hy, hR⟩ := HY.out _ ⟨Bo, 3, none⟩ T wr HS.out.hJ (by rw [← hops]; exact hpre) HS.out.keep HS.out.tb
          have HR := Aside0.mk hR
          have HOPS := Aside0.mk hops
          clear hR hops hpre hrd hlt hi
          gi_wp2_with (first
            | (refine ⟨trivial, ?_⟩; gi_at_call 38; refine (callsIn_wide.2 (index_yes f 67 wr hcn)).mono ?_; rintro e w'' ⟨t, ht0, rfl, rfl⟩))
          refine HR.out.mono ?_
          rintro e W3 ⟨rfl, T3, hT3, hk3, hJ3⟩
          have HS3 := Aside0.mk (HS.out.on hT3 hk3 hJ3)
          clear hT3 hk3 hJ3
          gi_wp2
          gi_roundg 0
          case rel => exact ⟨3, T3, by first | rfl | go_num, by omega, by omega, ⟨by rw [HOPS.out]; exact HS3.out⟩⟩
          case measure => omega
        · have hF' : hasF K 67 = false := by simpa using hF
          have hcn : f.data.toList.contains 67 = false := by have := hF'; unfold hasF at this; rw [HF.out] at this; exact this
          have hops : ops1 K Bo 3 = ops1 K Bo 2 := by simp [ops1, hF']
          have HOPS := Aside0.mk hops
          clear hops hpre hrd hlt hi hF hF'
          gi_wp2_with (first
            | (refine ⟨trivial, ?_⟩; gi_at_call 38; refine (callsIn_wide.2 (index_no f 67 wr hcn)).mono ?_; rintro e w'' ⟨rfl, rfl⟩))
          refine ⟨fun _ h => (by cases h), ?_⟩
          gi_wp2
          gi_roundg 0
          case rel => exact ⟨3, T, by first | rfl | go_num, by omega, by omega, ⟨by rw [HOPS.out]; exact HS.out⟩⟩
          case measure => omega
    · obtain rfl : i = 3 := by omega
      have HS3 := HS
      clear HS ha0 ha1 ha2 hlt hi hgk
      obtain ⟨q1, q2, q3, _⟩ := hrd
      clear q2
      gi_wp2
      have hops0 : ops2 A6 0 = [] := by unfold ops2; cases A6 <;> simp
      have HO0 := Aside0.mk hops0
      clear q1 q3 hops0
      gi_loopg [45] m (fun gk v45 X => ∃ (i : Nat) (T : Nat → Prop), v45 = .int .i64 i ∧ i ≤ m ∧ gk + i = m ∧ Aside0 (St1 J T0 w' Bo (ops1 K Bo 3 ++ ops2 A6 i) T X))
      case atStart => exact ⟨0, T, rfl, by omega, by omega, ⟨by rw [HO0.out, List.append_nil]; exact HS3.out⟩⟩
      case round =>
        clear HS3
        obtain ⟨i, T4, rfl, hi, hgk, HS⟩ := hrel
        have hrd := HRD.out _ _ _ HS.out.hJ
        obtain ⟨q1, q2, q3, _⟩ := hrd
        clear q2
        by_cases hlt : i < m
        · obtain ⟨ad, rfl⟩ := HA.out (by omega)
          have hops : ops2 (some ad) (i + 1) = ops2 (some ad) i ++ [ad.add i] := by simp [ops2, List.range_succ]
          have hpre : ops1 K Bo 3 ++ ops2 (some ad) (i + 1) <+: opsAll K Bo (some ad) m := by
            unfold opsAll
            refine (List.prefix_append_right_inj _).2 ?_
            simp only [ops2]
            have hr : List.range (i + 1) = (List.range m).take (i + 1) := by rw [List.take_range, Nat.min_eq_left (by omega)]
            rw [hr, List.map_take]
            exact List.take_prefix _ _
          obtain ⟨fn, tmps, assign, body, hy, hR⟩ := HY.out _ (ad.add i) T4 wr HS.out.hJ (by rw [List.append_assoc, ← hops]; exact hpre) HS.out.keep HS.out.tb
          have HR := Aside0.mk hR
          have HOPS := Aside0.mk hops
          have hi0 : 0 ≤ (i : Int) := by omega
          clear hR hops hpre
          gi_wp2
          refine HR.out.mono ?_
          rintro e W3 ⟨rfl, T3, hT3, hk3, hJ3⟩
          have HS5 := Aside0.mk (HS.out.on hT3 hk3 hJ3)
          clear hT3 hk3 hJ3
          gi_wp2
          gi_roundg (m - (i + 1))
          case rel => exact ⟨i + 1, T3, by go_num, by omega, by omega, ⟨by rw [HOPS.out, ← List.append_assoc]; exact HS5.out⟩⟩
          case measure => omega
        · obtain rfl : i = m := by omega
          have hge : ¬ ((i : Int) < (i : Int)) := by omega
          clear hi hlt
          gi_wp2
          go_end0
          exact ⟨⟨_, rfl⟩, T4, HS.out.hJ, HS.out.keep, HS.out.tb⟩
/-- append(v, x) as a run: for a region whose orders are walked one by one. -/
theorem R_append_run {α : Type} {P : Program} (d : Kd α) {W : World} (base : Nat) (t T e : TypeId) (z : Value) (bytes : Nat)
    (ht : P.underlying t = some (.slice e)) (hinfo : (P.info? e).map (fun i => (i.zero, i.size, i.bytes)) = some (some z, d.sz, bytes)) (hz : z.cells.size = d.sz) (hs0 : 0 < d.sz) (hb0 : 0 < bytes)
    (v : Value) (xs : List α) (p : α) (cs : List Value) (ok okp : Nat → Prop) (hp : d.M W base okp p cs) (hokp : ∀ k, okp k → ok k ∧ some k ≠ v.ownBlock) (hfresh : ∀ k, W.heap.size ≤ k → ok k)
    (HO : d.R e W base ok v xs) (hbase : base ≤ W.heap.size) (hl : (xs.length + 1) * bytes ≤ 140737488355328) :
    ∃ g cap w1, (Builtin.append_ #[t, t] T #[v, .slice (some ⟨W.heap.size, 0, none⟩) 1 1]).run P ((W.alloc (.cells cs.toArray e)).drew) = .ok (.slice (some ⟨g, 0, none⟩) (xs.length + 1) cap) w1 ∧
      d.R e w1 base ok (.slice (some ⟨g, 0, none⟩) (xs.length + 1) cap) (xs ++ [p]) ∧ W.grownBy w1 v.ownBlock ∧ (v.ownBlock = some g ∨ W.heap.size ≤ g) := by
  obtain ⟨h0, inner, hown, hr⟩ := HO
  obtain ⟨i0, hi, hzz⟩ := Option.map_eq_some_iff.1 hinfo
  simp only [Prod.mk.injEq] at hzz
  obtain ⟨hz0, hz1, hz2⟩ := hzz
  have hlen : xs.length + 1 ≤ 140737488355328 := Nat.le_trans (Nat.le_mul_of_pos_right _ hb0) hl
  obtain ⟨v1, w1, hrun, hown1, hg1, _, hat⟩ := run_append_own_at (P := P) ((W.alloc (.cells cs.toArray e)).drew) base t T e i0 z d.sz bytes ht hi hz0 hz1 hz2 hz hs0 v xs.length inner (by
      have := hown.alloc (.cells cs.toArray e)
      exact this) ⟨W.heap.size, 0, none⟩ 1 1 cs (by rw [d.K_len (d.K_of_M hp)]; omega)
    (World.news_of_block (w := W.alloc (.cells cs.toArray e)) (cs := cs.toArray) (t := e) (fr := (0, 0)) (heap_alloc_new W _)) (d.K_one (d.K_of_M hp)) (by simp only [maxLen]; omega) hl (by simp; omega)
  have hat' : v1.ownBlock = v.ownBlock ∨ ∃ b, v1.ownBlock = some b ∧ W.heap.size ≤ b := hat.imp id (fun hb => ⟨_, hb, by simp⟩)
  have hg : W.grownBy w1 v.ownBlock := World.grownBy.trans (World.grownBy_alloc W (.cells cs.toArray e) _) ⟨hg1.os, hg1.tape, hg1.output, hg1.size, hg1.block⟩
  have hR := Kd.R_appended h0 hr hp hokp hfresh hown1 hg hat'
  obtain ⟨g, cap, rfl⟩ := ownsRow_succ hown1
  refine ⟨g, cap, w1, hrun, hR, hg, ?_⟩
  rcases hat' with e1 | ⟨b, e1, hle⟩
  · exact .inl (by rw [← e1]; rfl)
  · exact .inr (by have : g = b := by simpa [Value.ownBlock] using e1
                   omega)
theorem append_wpOpIn {F : Fence} {n : Nat} {P : Program} {Q : Exit → Act → World → Prop} {o : Oper} {K : Act → World → Prop} {a : Act} {W w1 : World} {s x : Operand} {t : TypeId} {v u r : Value} {y : Nat → Option Bool} {B : Prop} (hgd : o.guard = none)
    (ho : o.op = .call { callee := .builtin .append, args := #[s, x], argTypes := #[t, t] }) (hs : a.eval s = v) (hx : a.eval x = u)
    (hrun : (Builtin.append_ #[t, t] o.type #[v, u]).run P W = .ok r w1) (hK : K (a.put o.dst r) w1) : if Region.wanted o y = true then o.wpIn F n P a W K Q else B := by
  have hw : Region.wanted o y = true := by simp [Region.wanted, hgd]
  simp only [hw, if_true]
  refine ⟨fun f hf => ?_, ?_⟩
  · exfalso
    revert hf
    unfold Oper.about
    simp only [ho]
    simp [resolve, go_sem, Target.leads]
  · rw [Oper.semAt_eq _ _ _ (fun c hc => by rw [ho] at hc; cases hc)]
    unfold execOp
    simp only [ho, resolve, invoke, builtin, Sem.run_bind, Sem.run_pure, Result.andThen_ok, List.map_toArray, List.map_cons, List.map_nil, hs, hx, hrun]
    exact hK
def usesL (K a b c : Int) (l : List Int) : List Int := (if hasF K 65 then [a] else []) ++ (if hasF K 66 then [b] else []) ++ (if hasF K 67 then [c] else []) ++ (if hasF K 76 then l else [])
def kind_uses.f (a0_0 a0_1 a0_2 a0_3 a0_4 : Int) (a0_5 : ByteArray) (l0_6 : List Int) (a0_7 : Bool) : Option (List Int) :=
  if l0_6.length < 17592186044000 then some (usesL a0_0 a0_1 a0_2 a0_3 l0_6) else none
/-- the values at the places -/
def valsAt (K a b c : Int) (l : List Int) : List Int := (if hasF K 65 then [a] else []) ++ (if hasF K 66 then [b] else []) ++ (if hasF K 67 then [c] else []) ++ l
/-- What o's cells hold. -/
structure UsO (base N0 D Bo : Nat) (K a b c n : Int) (s : ByteArray) (A : Option Addr) (cp : Nat) (l : List Int) (st : Bool) (W : World) : Prop where
  o : W.heap[Bo]? = some (.cells #[.int .i64 K, .int .i64 a, .int .i64 b, .int .i64 c, .int .i64 n, .string s, .slice A l.length cp, .bool st] 33 (0, 0))
  l : Kd.R (Kd.int .i64) 3 W base (fun k => base ≤ k ∧ k < N0 ∧ k ≠ D ∧ k ≠ D + 1) (.slice A l.length cp) l
def Pairs (W : World) (xs : List Addr) (vs : List Int) : Prop := xs.length = vs.length ∧ ∀ (j : Nat) (x : Addr), xs[j]? = some x → ∃ v, vs[j]? = some v ∧ W.cell? x = some (.int .i64 v)
theorem Pairs.app {W : World} {xs xs' : List Addr} {vs vs' : List Int} (h : Pairs W xs vs) (h' : Pairs W xs' vs') : Pairs W (xs ++ xs') (vs ++ vs') := by
  refine ⟨by rw [List.length_append, List.length_append, h.1, h'.1], fun j x hx => ?_⟩
  by_cases hj : j < xs.length
  · rw [List.getElem?_append_left hj] at hx
    rw [List.getElem?_append_left (by rw [← h.1]; exact hj)]
    exact h.2 j x hx
  · rw [List.getElem?_append_right (by omega)] at hx
    rw [List.getElem?_append_right (by rw [← h.1]; omega), ← h.1]
    exact h'.2 _ x hx
theorem Pairs.one {W : World} {x : Addr} {v : Int} (b : Bool) (h : W.cell? x = some (.int .i64 v)) : Pairs W (if b = true then [x] else []) (if b = true then [v] else []) := by
  cases b
  · exact ⟨rfl, fun j y hy => by simp at hy⟩
  · refine ⟨rfl, fun j y hy => ?_⟩
    cases j with
    | zero => simp at hy; subst hy; exact ⟨v, rfl, h⟩
    | succ j => simp at hy
theorem Pairs.list {W : World} {A : Option Addr} {l : List Int} (h : Kd.C (Kd.int .i64) W A l.length l) : Pairs W (ops2 A l.length) l := by
  cases l with
  | nil => cases A <;> exact ⟨by simp [ops2], fun j y hy => by simp [ops2] at hy⟩
  | cons v0 l0 =>
    obtain ⟨ad, rfl, _⟩ := Kd.at_int h 0 (by omega) (by simp)
    refine ⟨by simp [ops2], fun j y hy => ?_⟩
    have hj : j < (v0 :: l0).length := by
      have := (List.getElem?_eq_some_iff.1 hy).1
      simpa [ops2] using this
    obtain ⟨ad', e, hc⟩ := Kd.at_int h (j : Int) (by omega) (by omega)
    obtain rfl := Option.some.inj e
    have hy' : ad.add j = y := by
      have := (List.getElem?_eq_some_iff.1 hy).2
      simpa [ops2] using this
    subst hy'
    refine ⟨_, List.getElem?_eq_getElem hj, ?_⟩
    rw [Int.toNat_natCast] at hc
    rw [hc]
    simp [rd, List.getD_eq_getElem?_getD, List.getElem?_eq_getElem hj]
theorem UsO.pairs {base N0 D Bo : Nat} {K a b c n : Int} {s : ByteArray} {A : Option Addr} {cp : Nat} {l : List Int} {st : Bool} {W : World} (h : UsO base N0 D Bo K a b c n s A cp l st W) : Pairs W (opsAll K Bo A l.length) (valsAt K a b c l) := by
  have e : ops1 K Bo 3 = (if hasF K 65 = true then [⟨Bo, 1, none⟩] else []) ++ (if hasF K 66 = true then [⟨Bo, 2, none⟩] else []) ++ (if hasF K 67 = true then [⟨Bo, 3, none⟩] else []) := by simp [ops1]
  unfold opsAll valsAt
  rw [e]
  exact (((Pairs.one _ (blk_cell h.o 1)).app (Pairs.one _ (blk_cell h.o 2))).app (Pairs.one _ (blk_cell h.o 3))).app (Pairs.list (Kd.R_reads' h.l).2.2)
theorem UsO.block {base N0 D Bo : Nat} {K a b c n : Int} {s : ByteArray} {A : Option Addr} {cp : Nat} {l : List Int} {st : Bool} {W : World} (h : UsO base N0 D Bo K a b c n s A cp l st W) {x : Addr} (hx : x ∈ opsAll K Bo A l.length) :
    x.block = Bo ∨ (base ≤ x.block ∧ x.block < N0 ∧ x.block ≠ D ∧ x.block ≠ D + 1) := by
  unfold opsAll ops1 at hx
  simp only [List.mem_append] at hx
  rcases hx with ((hx | hx) | hx) | hx
  · split at hx
    · simp at hx; subst hx; exact .inl rfl
    · cases hx
  · split at hx
    · simp at hx; subst hx; exact .inl rfl
    · cases hx
  · split at hx
    · simp at hx; subst hx; exact .inl rfl
    · cases hx
  · unfold ops2 at hx
    cases A with
    | none => cases hx
    | some ad =>
      simp only [List.mem_map] at hx
      obtain ⟨i, _, rfl⟩ := hx
      have hb : (ad.add i).block = ad.block := by unfold Addr.add; split <;> rfl
      rw [hb]
      exact .inr (h.l.1 ad.block rfl)
theorem Pairs.at_ {W : World} {xs : List Addr} {vs : List Int} (h : Pairs W xs vs) {pre : List Addr} {x : Addr} (hx : (pre ++ [x]) <+: xs) : ∃ v, W.cell? x = some (.int .i64 v) ∧ vs.take (pre.length + 1) = vs.take pre.length ++ [v] := by
  obtain ⟨r, hr⟩ := hx
  have hj : xs[pre.length]? = some x := by rw [← hr]; simp
  obtain ⟨v, hv, hc⟩ := h.2 _ _ hj
  refine ⟨v, hc, ?_⟩
  obtain ⟨h1, h2⟩ := List.getElem?_eq_some_iff.1 hv
  rw [List.take_succ_eq_append_getElem h1, h2]
set_option maxHeartbeats 4000000 in
set_option maxRecDepth 100000 in
theorem kind_uses.calls (a0_0 : Int) (a0_1 : Int) (a0_2 : Int) (a0_3 : Int) (a0_4 : Int) (a0_5 : ByteArray) (A0_6 : Option Addr) (c0_6 : Nat) (l0_6 : List Int) (a0_7 : Bool) (r : List Int) (w : World) (hr0_6 : Kd.C (Kd.int .i64) w A0_6 l0_6.length l0_6) (hc0_6 : l0_6.length ≤ c0_6) (h : kind_uses.f a0_0 a0_1 a0_2 a0_3 a0_4 a0_5 l0_6 a0_7 = some r) (hG : Door.Laid w) :
    Calls Tryd.prog 30 #[.agg #[.int .i64 a0_0, .int .i64 a0_1, .int .i64 a0_2, .int .i64 a0_3, .int .i64 a0_4, .string a0_5, .slice A0_6 l0_6.length c0_6, .bool a0_7]] w fun e w' => ∃ v0_ : Value, e = .returned v0_ ∧ Kd.R (Kd.int .i64) 3 w' w.heap.size (fun _ => True) v0_ r ∧ Below w.heap.size w w' := by
  unfold kind_uses.f at h
  split at h
  rotate_left
  · cases h
  rename_i hll
  have hr := Option.some.inj h
  have HRR := Aside0.mk hr
  have HLL := Aside0.mk hll
  have HR := Aside0.mk hr0_6
  have HC := Aside0.mk hc0_6
  have HG := Aside0.mk hG
  have hpl : kind_plain.f a0_0 a0_1 a0_2 a0_3 a0_4 a0_5 l0_6 a0_7 = some (a0_0, (if hasF a0_0 65 then a0_1 else 0), (if hasF a0_0 66 then a0_2 else 0), (if hasF a0_0 67 then a0_3 else 0), (if hasF a0_0 78 then a0_4 else 0), (if hasF a0_0 83 then a0_5 else ByteArray.empty), (if hasF a0_0 76 then l0_6 else []), (if hasF a0_0 75 then a0_7 else false)) := by
    unfold kind_plain.f; rw [if_pos (by omega)]
  obtain ⟨p1, hp1⟩ : ∃ p, (if hasF a0_0 65 = true then a0_1 else 0) = p := ⟨_, rfl⟩
  obtain ⟨p2, hp2⟩ : ∃ p, (if hasF a0_0 66 = true then a0_2 else 0) = p := ⟨_, rfl⟩
  obtain ⟨p3, hp3⟩ : ∃ p, (if hasF a0_0 67 = true then a0_3 else 0) = p := ⟨_, rfl⟩
  obtain ⟨p4, hp4⟩ : ∃ p, (if hasF a0_0 78 = true then a0_4 else 0) = p := ⟨_, rfl⟩
  obtain ⟨p5, hp5⟩ : ∃ p, (if hasF a0_0 83 = true then a0_5 else ByteArray.empty) = p := ⟨_, rfl⟩
  obtain ⟨p6, hp6⟩ : ∃ p, (if hasF a0_0 76 = true then l0_6 else []) = p := ⟨_, rfl⟩
  obtain ⟨p7, hp7⟩ : ∃ p, (if hasF a0_0 75 = true then a0_7 else false) = p := ⟨_, rfl⟩
  have hvals : usesL a0_0 a0_1 a0_2 a0_3 l0_6 = valsAt a0_0 p1 p2 p3 p6 := by
    unfold usesL valsAt
    rw [← hp1, ← hp2, ← hp3, ← hp6]
    cases hasF a0_0 65 <;> cases hasF a0_0 66 <;> cases hasF a0_0 67 <;> simp
  have hl6 : p6.length ≤ l0_6.length := by rw [← hp6]; split <;> simp
  rw [hp1, hp2, hp3, hp4, hp5, hp6, hp7] at hpl
  have HPL := Aside0.mk hpl
  have HV := Aside0.mk hvals
  have HL6 := Aside0.mk hl6
  clear h hll hr0_6 hc0_6 hG hr hpl hvals hl6 hp1 hp2 hp3 hp4 hp5 hp6 hp7
  refine (callsIn_wide (n := 6)).1 ?_
  refine callsIn_of_wp_marks Tryd.func30 rfl trivial ?_ rfl
  simp only [Tryd.ntmps30, List.size_toArray, List.length_cons, List.length_nil, Nat.reduceAdd, Nat.reduceSub, Array.replicate_succ, Array.replicate_zero, List.push_toArray, List.append_toArray, List.nil_append, List.cons_append]
  gi_wp2_with (first
    | (refine ⟨trivial, ?_⟩; gi_at_call 27; refine Aside0.out ?_))
  refine ⟨?_⟩
  obtain ⟨Wa, hWa⟩ : ∃ Wa, w.alloc (.cells #[.int .i64 a0_0, .int .i64 a0_1, .int .i64 a0_2, .int .i64 a0_3, .int .i64 a0_4, .string a0_5, .slice A0_6 l0_6.length c0_6, .bool a0_7] 33) = Wa := ⟨_, rfl⟩
  have hBa : Below w.heap.size w Wa := by rw [← hWa]; exact below_alloc (Below.refl _ _) _
  have hsa : Wa.heap.size = w.heap.size + 1 := by rw [← hWa]; simp
  have hoa := heap_alloc_new w (.cells #[.int .i64 a0_0, .int .i64 a0_1, .int .i64 a0_2, .int .i64 a0_3, .int .i64 a0_4, .string a0_5, .slice A0_6 l0_6.length c0_6, .bool a0_7] 33)
  rw [hWa] at hoa
  rw [hWa]
  refine (callsIn_wide.2 (kind_plain.calls _ _ _ _ _ _ A0_6 c0_6 l0_6 _ _ _ _ _ _ _ _ _ Wa (Kd.C_below HR.out hBa) HC.out HPL.out (HG.out.on hBa))).mono ?_
  rintro e w1 ⟨v6, rfl, hR, hB⟩
  obtain ⟨A3, c3, rfl⟩ := Kd.R_slice hR
  have hs1 : w.heap.size + 1 ≤ w1.heap.size := by have := hB.size; omega
  have ho1 := (hB.block w.heap.size (by omega)).trans hoa
  have z1 := blk_frozen ho1
  have y1 := blk_cell ho1
  have HR1 := Aside0.mk hR
  have HB1 := Aside0.mk (hBa.trans (hB.mono (by omega)))
  have HO1 := Aside0.mk ho1
  have HS1 := Aside0.mk hs1
  have HSA := Aside0.mk hsa
  clear hR hB hoa ho1 hsa hBa hs1 hWa
  gi_wp2_with (first
    | (refine ⟨trivial, ?_⟩; gi_at_call 31; refine Aside0.out ?_))
  refine ⟨?_⟩
  have hne : ∀ (V : World) (i j : Nat) (u : Value), j ≠ w.heap.size → (V.setCell ⟨w.heap.size, i, none⟩ u).heap[j]? = V.heap[j]? := fun V i j u hj => Below.heap_setCell V ⟨w.heap.size, i, none⟩ u j hj
  have hBs : ∀ (V : World) (i : Nat) (u : Value), Below w.heap.size w V → Below w.heap.size w (V.setCell ⟨w.heap.size, i, none⟩ u) := fun V i u h => h.setCell (p := ⟨w.heap.size, i, none⟩) (Nat.le_refl _) _
  obtain ⟨W2, hW2⟩ : ∃ W2, (((((((w1.setCell ⟨w.heap.size, 0, none⟩ (.int .i64 a0_0)).setCell ⟨w.heap.size, 1, none⟩ (.int .i64 p1)).setCell ⟨w.heap.size, 2, none⟩ (.int .i64 p2)).setCell ⟨w.heap.size, 3, none⟩ (.int .i64 p3)).setCell ⟨w.heap.size, 4, none⟩ (.int .i64 p4)).setCell ⟨w.heap.size, 5, none⟩ (.string p5)).setCell ⟨w.heap.size, 6, none⟩ (.slice A3 p6.length c3)).setCell ⟨w.heap.size, 7, none⟩ (.bool p7) = W2 := ⟨_, rfl⟩
  have hs2 : W2.heap.size = w1.heap.size := by rw [← hW2]; simp [World.setCell]
  have ho2 : W2.heap[w.heap.size]? = some (.cells #[.int .i64 a0_0, .int .i64 p1, .int .i64 p2, .int .i64 p3, .int .i64 p4, .string p5, .slice A3 p6.length c3, .bool p7] 33 (0, 0)) := by
    have h1 := blk_set (blk_set (blk_set (blk_set (blk_set (blk_set (blk_set (blk_set HO1.out 0 (.int .i64 a0_0)) 1 (.int .i64 p1)) 2 (.int .i64 p2)) 3 (.int .i64 p3)) 4 (.int .i64 p4)) 5 (.string p5)) 6 (.slice A3 p6.length c3)) 7 (.bool p7)
    rw [hW2] at h1
    rw [h1]; simp
  have hB2 : Below w.heap.size w W2 := by
    rw [← hW2]
    exact hBs _ _ _ (hBs _ _ _ (hBs _ _ _ (hBs _ _ _ (hBs _ _ _ (hBs _ _ _ (hBs _ _ _ (hBs _ _ _ HB1.out)))))))
  have hR2 : Kd.R (Kd.int .i64) 3 W2 (w.heap.size + 1) (fun k => w.heap.size + 1 ≤ k ∧ k < w1.heap.size) (.slice A3 p6.length c3) p6 := by
    have hsa := HSA.out
    have := Kd.R_bound HR1.out
    rw [hsa] at this
    refine Kd.R_mono (Kd.R_move this (fun k hk => ?_)) (fun k hk => ⟨hk.2.1, hk.2.2.1⟩)
    have hk1 : k ≠ w.heap.size := by have := hk.2.1; omega
    rw [← hW2]
    simp only [hne _ _ _ _ hk1]
  rw [hW2]
  clear hW2 hne hBs
  refine (operands_in Fence.wide 5 trivial rfl w.heap.size _).mono ?_
  rintro e W4 ⟨rfl, hW4⟩
  have hs4 : W4.heap.size = w1.heap.size + 2 := by rw [hW4]; simp [hs2]
  have hD : W4.heap[w1.heap.size]? = some (.cells #[.slice none 0 0] 31 (0, 0)) := by
    rw [hW4, heap_alloc_old _ _ (by simp; omega), ← hs2]; exact heap_alloc_new W2 _
  have hP : W4.heap[w1.heap.size + 1]? = some (.cells #[.pointer (some ⟨w.heap.size, 0, none⟩)] 51 (0, 0)) := by
    have := heap_alloc_new (W2.alloc (.cells #[.slice none 0 0] 31)) (.cells #[.pointer (some ⟨w.heap.size, 0, none⟩)] 51)
    rw [World.size_alloc, hs2] at this
    rw [hW4]; exact this
  have hold : ∀ k, k < w1.heap.size → W4.heap[k]? = W2.heap[k]? := fun k hk => by
    rw [hW4, heap_alloc_old _ _ (by simp; omega), heap_alloc_old _ _ (by omega)]
  have hU4 : UsO (w.heap.size + 1) W4.heap.size w1.heap.size w.heap.size a0_0 p1 p2 p3 p4 p5 A3 c3 p6 p7 W4 :=
    ⟨(hold _ (by have := HS1.out; omega)).trans ho2, Kd.R_mono (Kd.R_move hR2 (fun k hk => hold k hk.2)) (fun k hk => ⟨hk.1, by omega, by omega, by omega⟩)⟩
  have hB4 : Below w.heap.size w W4 := by rw [hW4]; exact below_alloc (below_alloc hB2 _) _
  rw [World.size_alloc, hs2]
  clear hW4 hold ho2 hB2 hR2 hs2
  have hLd4 := HG.out.on hB4
  have hRd4 : RdO (w1.heap.size + 1) w.heap.size a0_0 A3 p6.length c3 W4 := ⟨blk_cell hP 0, blk_cell hU4.o 0, blk_cell hU4.o 6, hLd4⟩
  have hC4 := (Kd.R_reads' hU4.l)
  obtain ⟨N0, hN0⟩ : ∃ N0, W4.heap.size = N0 := ⟨_, rfl⟩
  have hNw : w1.heap.size + 2 = N0 := by omega
  rw [hN0] at hU4
  have HU4 := Aside0.mk hU4
  have HB4 := Aside0.mk hB4
  have HD4 := Aside0.mk hD
  have HP4 := Aside0.mk hP
  have HRD4 := Aside0.mk hRd4
  have HC4 := Aside0.mk hC4
  have HN0 := Aside0.mk hN0
  have HNW := Aside0.mk hNw
  clear hU4 hB4 hD hP hRd4 hC4 hLd4 hN0 hNw hs4 y1 z1
  go_simp
  gi_wp2
  obtain ⟨VS, hVS⟩ : ∃ VS, valsAt a0_0 p1 p2 p3 p6 = VS := ⟨_, rfl⟩
  have hVl : VS.length ≤ 17592186044003 := by
    rw [← hVS]
    have := HL6.out
    have := HLL.out
    unfold valsAt
    simp only [List.length_append]
    have e : ∀ (b : Bool) (x : Int), (if b = true then [x] else []).length ≤ 1 := fun b x => by cases b <;> simp
    have := e (hasF a0_0 65) p1
    have := e (hasF a0_0 66) p2
    have := e (hasF a0_0 67) p3
    omega
  have HVS := Aside0.mk hVS
  have HVL := Aside0.mk hVl
  clear hVS hVl
  obtain ⟨B0, hB0⟩ : ∃ B0, w.heap.size = B0 := ⟨_, rfl⟩
  refine wpIn_rangeW (F := Fence.wide) (n := 6) (α := Addr) rfl (by decide) (gf := 37) (lb := #[.pointer (some ⟨w1.heap.size + 1, 0, none⟩)]) rfl trivial (enters_of Tryd.func37 (by kernel_rfl) rfl)
    (operands1_gives 5 (by decide) (w1.heap.size + 1) w.heap.size a0_0 A3 p6.length c3 HC4.out.2.1 (by have := HL6.out; have := HLL.out; omega) (fun hp => by obtain ⟨ad, e, _⟩ := HC4.out.2.2.2.2 hp; exact ⟨ad, e⟩) W4) (Below.refl _ _) (fun _ => rfl)
    (fun pre T W => (∀ k, k < N0 → T k) ∧ N0 ≤ W.heap.size ∧ Below w.heap.size w W ∧ UsO (w.heap.size + 1) N0 w1.heap.size w.heap.size a0_0 p1 p2 p3 p4 p5 A3 c3 p6 p7 W ∧ W.heap[w1.heap.size + 1]? = some (.cells #[.pointer (some ⟨w.heap.size, 0, none⟩)] 51 (0, 0)) ∧
      ∃ v, Boxed W w1.heap.size 31 v ∧ Kd.R (Kd.int .i64) 3 W N0 (fun k => T k ∧ N0 ≤ k) v (VS.take pre.length))
    ?stable ?rd (fun k => k < N0) ?start ?own ?round ?done
  case stable =>
    rintro s T A B ⟨hT, hN, hb, hu, hp, v, hv, hR⟩ hh
    have hNT : ∀ k, k < N0 → B.heap[k]? = A.heap[k]? := fun k hk => hh.block k (hT k hk)
    have := HNW.out
    have := HS1.out
    refine ⟨hT, Nat.le_trans hN hh.size, ⟨hh.os.trans hb.os, hh.tape.trans hb.tape, hh.output.trans hb.output, Nat.le_trans hb.size hh.size, fun k hk => (hNT k (by omega)).trans (hb.block k hk)⟩,
      ⟨(hNT _ (by omega)).trans hu.o, Kd.R_move hu.l (fun k hk => hNT k hk.2.1)⟩, (hNT _ (by omega)).trans hp, v, (hNT _ (by omega)).trans hv, hh.row hR (fun k hk => hk.1)⟩
  case rd =>
    rintro s T X ⟨hT, hN, hb, hu, hp, _⟩
    exact ⟨blk_cell hp 0, blk_cell hu.o 0, blk_cell hu.o 6, HG.out.on hb⟩
  case start => exact ⟨fun k hk => hk, by rw [HN0.out]; exact Nat.le_refl _, HB4.out, HU4.out, HP4.out, _, HD4.out, Kd.R_nil _ _ _ _ _⟩
  case own => intro k hk; rw [HN0.out]; exact hk
  case round =>
    rintro pre x T W ⟨hT, hN, hb, hu, hp, v, hv, hR⟩ hpre hsz hTs hkp
    obtain ⟨xv, hxc, htk⟩ := hu.pairs.at_ hpre
    rw [HVS.out] at htk
    have HTK := Aside0.mk htk
    have HMEM := Aside0.mk (show x ∈ opsAll a0_0 w.heap.size A3 p6.length from hpre.subset (by simp))
    have hpl : (VS.take pre.length).length ≤ 17592186044003 := by
      have := HVL.out
      rw [List.length_take]
      omega
    obtain ⟨out, hout⟩ : ∃ out, VS.take pre.length = out := ⟨_, rfl⟩
    rw [hout] at hR hpl
    have HOUT := Aside0.mk hout
    have HTS := Aside0.mk hTs
    have HKP := Aside0.mk hkp
    have HSZ := Aside0.mk hsz
    have HT := Aside0.mk hT
    have HNN := Aside0.mk hN
    have HBB := Aside0.mk hb
    have HUU := Aside0.mk hu
    have HPP := Aside0.mk hp
    have HVV := Aside0.mk hv
    have HRO := Aside0.mk hR
    have HPL2 := Aside0.mk hpl
    have HXC := Aside0.mk hxc
    clear htk hpre hout hTs hkp hsz hT hN hb hu hp hv hR hpl hxc
    gi_wp2
    refine ⟨Hold.refl _ _, fun X hsX hhX => ?_⟩
    have hN0 := HN0.out
    have hNW := HNW.out
    have hS1 := HS1.out
    have hNN := HNN.out
    have hsz := HSZ.out
    have hkX : ∀ k, k < N0 → X.heap[k]? = W.heap[k]? := fun k hk => hhX.block k (by omega)
    have hvX : Boxed X w1.heap.size 31 v := (hkX _ (by omega)).trans HVV.out
    have hRX : Kd.R (Kd.int .i64) 3 X N0 (fun k => (T k ∨ W.heap.size ≤ k) ∧ N0 ≤ k) v out := Kd.R_mono (hhX.row HRO.out (fun k hk => by
      rcases (HTS.out k hk.1).1 with h | h
      · omega
      · omega)) (fun k hk => ⟨.inl hk.1, hk.2⟩)
    have hxX : X.cell? x = some (.int .i64 xv) := by
      have hb := HUU.out.block (HMEM.out)
      exact (World.cell?_of_block (hkX _ (by omega))).trans HXC.out
    obtain ⟨A, c, rfl⟩ := Kd.R_slice hRX
    obtain ⟨g, cap, w5, hrun, hR5, hg5, hat5⟩ := R_append_run (P := Tryd.prog) (Kd.int .i64) (W := X) N0 31 31 3 (.int .i64 0) 8 Tryd.underlying31 (by kernel_rfl) rfl (by decide) (by decide) (.slice A out.length c) out xv [.int .i64 xv] (fun k => (T k ∨ W.heap.size ≤ k) ∧ N0 ≤ k) (fun _ => False) rfl (fun k hk => hk.elim) (fun k hk => ⟨.inr (by omega), by omega⟩) hRX (by omega) (by have := HPL2.out; omega)
    have hv5 : Boxed w5 w1.heap.size 31 (.slice A out.length c) := Boxed.kept hvX hg5 (fun e => by have := (hRX.1 _ e.symm).2; omega)
    have hs5 : X.heap.size ≤ w5.heap.size := hg5.size
    have HEND : Aside0 (∃ T' : Nat → Prop, (∀ k, T' k → (T k ∨ W.heap.size ≤ k) ∧ k < (w5.setCell ⟨w1.heap.size, 0, none⟩ (.slice (some ⟨g, 0, none⟩) (out.length + 1) cap)).heap.size) ∧ Hold (fun k => k < W.heap.size ∧ ¬ T k) X (w5.setCell ⟨w1.heap.size, 0, none⟩ (.slice (some ⟨g, 0, none⟩) (out.length + 1) cap)) ∧
        ((∀ k, k < N0 → T' k) ∧ N0 ≤ (w5.setCell ⟨w1.heap.size, 0, none⟩ (.slice (some ⟨g, 0, none⟩) (out.length + 1) cap)).heap.size ∧ Below w.heap.size w (w5.setCell ⟨w1.heap.size, 0, none⟩ (.slice (some ⟨g, 0, none⟩) (out.length + 1) cap)) ∧ UsO (w.heap.size + 1) N0 w1.heap.size w.heap.size a0_0 p1 p2 p3 p4 p5 A3 c3 p6 p7 (w5.setCell ⟨w1.heap.size, 0, none⟩ (.slice (some ⟨g, 0, none⟩) (out.length + 1) cap)) ∧ (w5.setCell ⟨w1.heap.size, 0, none⟩ (.slice (some ⟨g, 0, none⟩) (out.length + 1) cap)).heap[w1.heap.size + 1]? = some (.cells #[.pointer (some ⟨w.heap.size, 0, none⟩)] 51 (0, 0)) ∧
          ∃ v, Boxed (w5.setCell ⟨w1.heap.size, 0, none⟩ (.slice (some ⟨g, 0, none⟩) (out.length + 1) cap)) w1.heap.size 31 v ∧ Kd.R (Kd.int .i64) 3 (w5.setCell ⟨w1.heap.size, 0, none⟩ (.slice (some ⟨g, 0, none⟩) (out.length + 1) cap)) N0 (fun k => T' k ∧ N0 ≤ k) v (VS.take (pre ++ [x]).length))) := by
      have hown : ∀ k, (Value.slice A out.length c).ownBlock = some k → N0 ≤ k := fun k hk => (hRX.1 k hk).2
      have h5 : ∀ k, k < N0 → (w5.setCell ⟨w1.heap.size, 0, none⟩ (.slice (some ⟨g, 0, none⟩) (out.length + 1) cap)).heap[k]? = if k = w1.heap.size then (w5.setCell ⟨w1.heap.size, 0, none⟩ (.slice (some ⟨g, 0, none⟩) (out.length + 1) cap)).heap[k]? else W.heap[k]? := fun k hk => by
        split
        · rfl
        · rename_i hne
          rw [Below.heap_setCell w5 ⟨w1.heap.size, 0, none⟩ _ k hne]
          exact (hg5.block k (by omega) (fun e => by have := hown k e.symm; omega)).trans (hkX k hk)
      have h6 : ∀ k, k < N0 → k ≠ w1.heap.size → (w5.setCell ⟨w1.heap.size, 0, none⟩ (.slice (some ⟨g, 0, none⟩) (out.length + 1) cap)).heap[k]? = W.heap[k]? := fun k hk hne => by rw [h5 k hk, if_neg hne]
      have hsz6 : (w5.setCell ⟨w1.heap.size, 0, none⟩ (.slice (some ⟨g, 0, none⟩) (out.length + 1) cap)).heap.size = w5.heap.size := by simp [World.setCell]
      refine ⟨⟨fun k => (T k ∨ W.heap.size ≤ k) ∧ k < w5.heap.size, fun k hk => ⟨hk.1, by rw [hsz6]; exact hk.2⟩, ?_, fun k hk => ⟨.inl (HT.out k hk), by omega⟩, by rw [hsz6]; omega, ?_, ⟨?_, ?_⟩, ?_, _, hv5.set _, ?_⟩⟩
      · exact ((Hold.refl _ _).grown hg5 (fun k hk => by omega) (fun k hk e => by
          rcases (hRX.1 k e.symm).1 with h | h
          · exact hk.2 h
          · omega)).setCell ⟨w1.heap.size, 0, none⟩ _ (fun h => h.2 (HT.out _ (by show w1.heap.size < N0; omega)))
      · have hb := HBB.out
        exact ⟨hg5.os.trans (hhX.os.trans hb.os), hg5.tape.trans (hhX.tape.trans hb.tape), hg5.output.trans (hhX.output.trans hb.output), by rw [hsz6]; have := hb.size; omega, fun k hk => (h6 k (by omega) (by omega)).trans (hb.block k hk)⟩
      · exact (h6 _ (by omega) (by omega)).trans HUU.out.o
      · exact Kd.R_move HUU.out.l (fun k hk => h6 k hk.2.1 hk.2.2.1)
      · exact (h6 _ (by omega) (by omega)).trans HPP.out
      · have e : VS.take (pre ++ [x]).length = out ++ [xv] := by rw [List.length_append, List.length_singleton, HTK.out, HOUT.out]
        rw [e]
        exact Kd.R_mono (Kd.R_far (p := ⟨w1.heap.size, 0, none⟩) (Kd.R_bound hR5) (fun k hk => by have := hk.1.2; show k ≠ w1.heap.size; omega) _) (fun k hk => ⟨⟨hk.1.1, hk.2.2.1⟩, hk.1.2⟩)
    have qo := hvX.cell
    have qof := hvX.frozen
    have q5 := hv5.cell
    have q5f := hv5.frozen
    have qoA : (X.alloc (.cells #[.int .i64 xv] 3)).cell? ⟨w1.heap.size, 0, none⟩ = some (.slice A out.length c) := (World.cell?_of_block (heap_alloc_old X _ (by show w1.heap.size < X.heap.size; omega))).trans qo
    have HR5 := Aside0.mk hR5
    have HG5 := Aside0.mk hg5
    have HAT5 := Aside0.mk hat5
    have HHX := Aside0.mk hhX
    have HSX := Aside0.mk hsX
    have HKX := Aside0.mk hkX
    have HRX := Aside0.mk hRX
    have HV5 := Aside0.mk hv5
    clear hN0 hNW hS1 hNN hsz hkX hvX hRX hR5 hg5 hat5 hhX hsX hv5
    gi_wp2
    refine wpIn_region_any (by kernel_rfl) ?_
    change wpAnyIn _ _ _ _ _ _ _ _ _ (World.drew _)
    refine wpAnyIn_ready (rs := [0, 1]) (by kernel_rfl) (by simp) ?_
    refine AllReadyIn.cons rfl (fun K hK => ?_) ?_
    · skip
      go_simp
      refine hK _ _ ?_; clear hK K
      refine wpAnyIn_ready (rs := [1]) (by kernel_rfl) (by simp) ?_
      refine AllReadyIn.cons rfl (fun K hK => ?_) ?_
      · skip
        go_simp
        refine hK _ _ ?_; clear hK K
        refine wpAnyIn_ready (rs := [2]) (by kernel_rfl) (by simp) ?_
        refine AllReadyIn.cons rfl (fun K hK => ?_) ?_
        · skip
          go_simp
          refine hK _ _ ?_; clear hK K
          refine wpAnyIn_ready (rs := [3]) (by kernel_rfl) (by simp) ?_
          refine AllReadyIn.cons rfl (fun K hK => ?_) ?_
          · skip
            go_simp
            refine hK _ _ ?_; clear hK K
            refine wpAnyIn_ready (rs := [4]) (by kernel_rfl) (by simp) ?_
            refine AllReadyIn.cons rfl (fun K hK => ?_) ?_
            · skip
              go_simp
              refine hK _ _ ?_; clear hK K
              refine wpAnyIn_ready (rs := [5]) (by kernel_rfl) (by simp) ?_
              refine AllReadyIn.cons rfl (fun K hK => ?_) ?_
              · skip
                refine append_wpOpIn (s := .tmp 9) (x := .tmp 13) (t := 31) (v := .slice A out.length c) (u := .slice (some ⟨X.heap.size, 0, none⟩) 1 1) (w1 := w5) (r := .slice (some ⟨g, 0, none⟩) (out.length + 1) cap) ?_ ?_ ?_ ?_ ?_ ?_
                · rfl
                · rfl
                · rfl
                · rfl
                · exact hrun
                go_simp
                refine hK _ _ ?_; clear hK K
                refine wpAnyIn_ready (rs := [6]) (by kernel_rfl) (by simp) ?_
                refine AllReadyIn.cons rfl (fun K hK => ?_) ?_
                · skip
                  go_simp
                  refine hK _ _ ?_; clear hK K
                  refine wpAnyIn_done (by kernel_rfl) ?_ _
                  exact HEND.out
                exact AllReadyIn.nil
              exact AllReadyIn.nil
            exact AllReadyIn.nil
          exact AllReadyIn.nil
        exact AllReadyIn.nil
      exact AllReadyIn.nil
    refine AllReadyIn.cons rfl (fun K hK => ?_) ?_
    · skip
      go_simp
      refine hK _ _ ?_; clear hK K
      refine wpAnyIn_ready (rs := [0, 2]) (by kernel_rfl) (by simp) ?_
      refine AllReadyIn.cons rfl (fun K hK => ?_) ?_
      · skip
        go_simp
        refine hK _ _ ?_; clear hK K
        refine wpAnyIn_ready (rs := [2]) (by kernel_rfl) (by simp) ?_
        refine AllReadyIn.cons rfl (fun K hK => ?_) ?_
        · skip
          go_simp
          refine hK _ _ ?_; clear hK K
          refine wpAnyIn_ready (rs := [3]) (by kernel_rfl) (by simp) ?_
          refine AllReadyIn.cons rfl (fun K hK => ?_) ?_
          · skip
            go_simp
            refine hK _ _ ?_; clear hK K
            refine wpAnyIn_ready (rs := [4]) (by kernel_rfl) (by simp) ?_
            refine AllReadyIn.cons rfl (fun K hK => ?_) ?_
            · skip
              go_simp
              refine hK _ _ ?_; clear hK K
              refine wpAnyIn_ready (rs := [5]) (by kernel_rfl) (by simp) ?_
              refine AllReadyIn.cons rfl (fun K hK => ?_) ?_
              · skip
                refine append_wpOpIn (s := .tmp 9) (x := .tmp 13) (t := 31) (v := .slice A out.length c) (u := .slice (some ⟨X.heap.size, 0, none⟩) 1 1) (w1 := w5) (r := .slice (some ⟨g, 0, none⟩) (out.length + 1) cap) ?_ ?_ ?_ ?_ ?_ ?_
                · rfl
                · rfl
                · rfl
                · rfl
                · exact hrun
                go_simp
                refine hK _ _ ?_; clear hK K
                refine wpAnyIn_ready (rs := [6]) (by kernel_rfl) (by simp) ?_
                refine AllReadyIn.cons rfl (fun K hK => ?_) ?_
                · skip
                  go_simp
                  refine hK _ _ ?_; clear hK K
                  refine wpAnyIn_done (by kernel_rfl) ?_ _
                  exact HEND.out
                exact AllReadyIn.nil
              exact AllReadyIn.nil
            exact AllReadyIn.nil
          exact AllReadyIn.nil
        exact AllReadyIn.nil
      refine AllReadyIn.cons rfl (fun K hK => ?_) ?_
      · skip
        go_simp
        refine hK _ _ ?_; clear hK K
        refine wpAnyIn_ready (rs := [0, 3]) (by kernel_rfl) (by simp) ?_
        refine AllReadyIn.cons rfl (fun K hK => ?_) ?_
        · skip
          go_simp
          refine hK _ _ ?_; clear hK K
          refine wpAnyIn_ready (rs := [3]) (by kernel_rfl) (by simp) ?_
          refine AllReadyIn.cons rfl (fun K hK => ?_) ?_
          · skip
            go_simp
            refine hK _ _ ?_; clear hK K
            refine wpAnyIn_ready (rs := [4]) (by kernel_rfl) (by simp) ?_
            refine AllReadyIn.cons rfl (fun K hK => ?_) ?_
            · skip
              go_simp
              refine hK _ _ ?_; clear hK K
              refine wpAnyIn_ready (rs := [5]) (by kernel_rfl) (by simp) ?_
              refine AllReadyIn.cons rfl (fun K hK => ?_) ?_
              · skip
                refine append_wpOpIn (s := .tmp 9) (x := .tmp 13) (t := 31) (v := .slice A out.length c) (u := .slice (some ⟨X.heap.size, 0, none⟩) 1 1) (w1 := w5) (r := .slice (some ⟨g, 0, none⟩) (out.length + 1) cap) ?_ ?_ ?_ ?_ ?_ ?_
                · rfl
                · rfl
                · rfl
                · rfl
                · exact hrun
                go_simp
                refine hK _ _ ?_; clear hK K
                refine wpAnyIn_ready (rs := [6]) (by kernel_rfl) (by simp) ?_
                refine AllReadyIn.cons rfl (fun K hK => ?_) ?_
                · skip
                  go_simp
                  refine hK _ _ ?_; clear hK K
                  refine wpAnyIn_done (by kernel_rfl) ?_ _
                  exact HEND.out
                exact AllReadyIn.nil
              exact AllReadyIn.nil
            exact AllReadyIn.nil
          exact AllReadyIn.nil
        refine AllReadyIn.cons rfl (fun K hK => ?_) ?_
        · skip
          go_simp
          refine hK _ _ ?_; clear hK K
          refine wpAnyIn_ready (rs := [0, 4]) (by kernel_rfl) (by simp) ?_
          refine AllReadyIn.cons rfl (fun K hK => ?_) ?_
          · skip
            go_simp
            refine hK _ _ ?_; clear hK K
            refine wpAnyIn_ready (rs := [4]) (by kernel_rfl) (by simp) ?_
            refine AllReadyIn.cons rfl (fun K hK => ?_) ?_
            · skip
              go_simp
              refine hK _ _ ?_; clear hK K
              refine wpAnyIn_ready (rs := [5]) (by kernel_rfl) (by simp) ?_
              refine AllReadyIn.cons rfl (fun K hK => ?_) ?_
              · skip
                refine append_wpOpIn (s := .tmp 9) (x := .tmp 13) (t := 31) (v := .slice A out.length c) (u := .slice (some ⟨X.heap.size, 0, none⟩) 1 1) (w1 := w5) (r := .slice (some ⟨g, 0, none⟩) (out.length + 1) cap) ?_ ?_ ?_ ?_ ?_ ?_
                · rfl
                · rfl
                · rfl
                · rfl
                · exact hrun
                go_simp
                refine hK _ _ ?_; clear hK K
                refine wpAnyIn_ready (rs := [6]) (by kernel_rfl) (by simp) ?_
                refine AllReadyIn.cons rfl (fun K hK => ?_) ?_
                · skip
                  go_simp
                  refine hK _ _ ?_; clear hK K
                  refine wpAnyIn_done (by kernel_rfl) ?_ _
                  exact HEND.out
                exact AllReadyIn.nil
              exact AllReadyIn.nil
            exact AllReadyIn.nil
          refine AllReadyIn.cons rfl (fun K hK => ?_) ?_
          · skip
            go_simp
            refine hK _ _ ?_; clear hK K
            refine wpAnyIn_ready (rs := [0]) (by kernel_rfl) (by simp) ?_
            refine AllReadyIn.cons rfl (fun K hK => ?_) ?_
            · skip
              go_simp
              refine hK _ _ ?_; clear hK K
              refine wpAnyIn_ready (rs := [5]) (by kernel_rfl) (by simp) ?_
              refine AllReadyIn.cons rfl (fun K hK => ?_) ?_
              · skip
                refine append_wpOpIn (s := .tmp 9) (x := .tmp 13) (t := 31) (v := .slice A out.length c) (u := .slice (some ⟨X.heap.size, 0, none⟩) 1 1) (w1 := w5) (r := .slice (some ⟨g, 0, none⟩) (out.length + 1) cap) ?_ ?_ ?_ ?_ ?_ ?_
                · rfl
                · rfl
                · rfl
                · rfl
                · exact hrun
                go_simp
                refine hK _ _ ?_; clear hK K
                refine wpAnyIn_ready (rs := [6]) (by kernel_rfl) (by simp) ?_
                refine AllReadyIn.cons rfl (fun K hK => ?_) ?_
                · skip
                  go_simp
                  refine hK _ _ ?_; clear hK K
                  refine wpAnyIn_done (by kernel_rfl) ?_ _
                  exact HEND.out
                exact AllReadyIn.nil
              exact AllReadyIn.nil
            exact AllReadyIn.nil
          exact AllReadyIn.nil
        exact AllReadyIn.nil
      exact AllReadyIn.nil
    exact AllReadyIn.nil
  case done =>
    rintro D xs T W hD rfl ⟨hT, hN, hb, hu, hp, v, hv, hR⟩ hK hkp hTs
    have hpl : (opsAll a0_0 w.heap.size A3 p6.length).length = VS.length := by rw [← HVS.out]; exact hu.pairs.1
    rw [hpl, List.take_length, ← HVS.out, ← HV.out, HRR.out] at hR
    have hc := hv.cell
    have hnw := HNW.out
    have hs1 := HS1.out
    have hn0 := HN0.out
    have HRO := Aside0.mk hR
    have HBB := Aside0.mk hb
    have HTS := Aside0.mk hTs
    clear hpl hR hu hp hT
    gi_wp2
    refine ⟨by simp, .inl ⟨_, _, rfl, run_takeDeferred hK, ?_⟩⟩
    refine ⟨_, results_tmp rfl _ _ _, v, rfl, ?_, ?_⟩
    · exact Kd.R_mono (Kd.R_lower (Kd.R_step HRO.out (fun k hk hlt => World.putObj_heap_other (fun e => by have := (HTS.out k hk.1).1; omega))) (by omega)) (fun _ _ => trivial)
    · exact HBB.out.trans (Hold.putObj _ _ _ |>.below_ (fun k hk => by omega))

/-! ### kind_Uses: function 19 -/
def kind_Uses.f (a0_0 : Int) (a0_1 : Int) (a0_2 : Int) (a0_3 : Int) (a0_4 : Int) (a0_5 : ByteArray) (l0_6 : List Int) (a0_7 : Bool) : Option (List Int) := (kind_uses.f a0_0 a0_1 a0_2 a0_3 a0_4 a0_5 l0_6 a0_7).bind fun t109 => (some t109)
set_option maxHeartbeats 8000000 in
set_option maxRecDepth 100000 in
theorem kind_Uses.calls (a0_0 : Int) (a0_1 : Int) (a0_2 : Int) (a0_3 : Int) (a0_4 : Int) (a0_5 : ByteArray) (A0_6 : Option Addr) (c0_6 : Nat) (l0_6 : List Int) (a0_7 : Bool) (r : List Int) (w : World) (hr0_6 : Kd.C (Kd.int .i64) w A0_6 l0_6.length l0_6) (hc0_6 : l0_6.length ≤ c0_6) (h : kind_Uses.f a0_0 a0_1 a0_2 a0_3 a0_4 a0_5 l0_6 a0_7 = some r) (hG : Door.Laid w) :
    Calls Tryd.prog 19 #[.agg #[.int .i64 a0_0, .int .i64 a0_1, .int .i64 a0_2, .int .i64 a0_3, .int .i64 a0_4, .string a0_5, .slice A0_6 l0_6.length c0_6, .bool a0_7]] w fun e w' => ∃ v0_ : Value, e = .returned (v0_) ∧ Kd.R (Kd.int .i64) 3 w' w.heap.size (fun _ => True) v0_ r ∧ Below w.heap.size w w' := by
  have hG_ := Aside0.mk hG
  clear hG
  have hu33 := Tryd.underlying33
  have HR0_6 := Aside0.mk hr0_6
  have HC0_6 := Aside0.mk hc0_6
  clear hr0_6 hc0_6
  have HB := Aside0.mk (Below.refl w.heap.size w)
  have H : ((kind_uses.f a0_0 a0_1 a0_2 a0_3 a0_4 a0_5 l0_6 a0_7).bind fun t109 => (some t109)) = some r := h
  clear h
  replace H := Option.bind_eq_some_iff.mp H
  obtain ⟨t109, A20, H⟩ := H
  replace H : (some t109) = some r := H
  have A2 := Aside0.mk A20
  clear A20
  obtain rfl := Option.some.inj H
  go_enter Tryd.func19, Tryd.ntmps19
  go_wp2_with (first | ((with_reducible refine gate_dst (N := 1) rfl ?_); refine box_event ?hg (N := 1) ?hd (cs := #[.int .i64 a0_0, .int .i64 a0_1, .int .i64 a0_2, .int .i64 a0_3, .int .i64 a0_4, .string a0_5, .slice A0_6 l0_6.length c0_6, .bool a0_7]) (t := 33) ?hr ?_; (case hd => rfl); (case hg => rfl); (case hr => first | (go_simp; done) | (go_simp; rfl)); intro gb108 hg w3 hbox hb; have n0_ := Aside0.mk (below_step (by repeat (first | (with_reducible first | exact HB.out | apply below_alloc | apply pw_below_drewN | apply below_drew1) | exact HB.out)) hb); have n1_ := Aside0.mk (hbox); have n2_ := Aside0.mk ((by rw [hg]; exact (below_size (by repeat (first | (with_reducible first | exact HB.out | apply below_alloc | apply pw_below_drewN | apply below_drew1) | exact HB.out))) : w.heap.size ≤ gb108)); have n3_ := Aside0.mk ((by rw [hg]; exact (below_size (by repeat (first | (with_reducible first | exact HB.out | apply below_alloc | apply pw_below_drewN | apply below_drew1) | exact HB.out))) : w.heap.size ≤ gb108)); clear HB; have HB := n0_; have BK108 := n1_; have GW108 := n2_; have GE108 := n3_; clear n0_ n1_ n2_ n3_; clear hb hbox hg; have hcz4_0 : w3.cell? ⟨gb108, 0, none⟩ = some (.int .i64 a0_0) := (blk_cell BK108.out 0).trans rfl; have hcz4_1 : w3.cell? ⟨gb108, 1, none⟩ = some (.int .i64 a0_1) := (blk_cell BK108.out 1).trans rfl; have hcz4_2 : w3.cell? ⟨gb108, 2, none⟩ = some (.int .i64 a0_2) := (blk_cell BK108.out 2).trans rfl; have hcz4_3 : w3.cell? ⟨gb108, 3, none⟩ = some (.int .i64 a0_3) := (blk_cell BK108.out 3).trans rfl; have hcz4_4 : w3.cell? ⟨gb108, 4, none⟩ = some (.int .i64 a0_4) := (blk_cell BK108.out 4).trans rfl; have hcz4_5 : w3.cell? ⟨gb108, 5, none⟩ = some (.string a0_5) := (blk_cell BK108.out 5).trans rfl; have hcz4_6 : w3.cell? ⟨gb108, 6, none⟩ = some (.slice A0_6 l0_6.length c0_6) := (blk_cell BK108.out 6).trans rfl; have hcz4_7 : w3.cell? ⟨gb108, 7, none⟩ = some (.bool a0_7) := (blk_cell BK108.out 7).trans rfl; have hfz4_0 := blk_frozen BK108.out 0; have hfz4_1 := blk_frozen BK108.out 1; have hfz4_2 := blk_frozen BK108.out 2; have hfz4_3 := blk_frozen BK108.out 3; have hfz4_4 := blk_frozen BK108.out 4; have hfz4_5 := blk_frozen BK108.out 5; have hfz4_6 := blk_frozen BK108.out 6; have hfz4_7 := blk_frozen BK108.out 7) | ((with_reducible refine gate_callee (f := 30) rfl ?_); refine goesL_ (some 4) rfl rfl Tryd.func30 (by kernel_rfl) rfl #[.agg #[.int .i64 a0_0, .int .i64 a0_1, .int .i64 a0_2, .int .i64 a0_3, .int .i64 a0_4, .string a0_5, .slice A0_6 l0_6.length c0_6, .bool a0_7]] rfl (by (try simp only [List.map_toArray, List.map_cons, List.map_nil]); first | done | rfl | (simp only [List.length_drop, List.length_take]; rfl)) ?_; (with_reducible refine (kind_uses.calls a0_0 a0_1 a0_2 a0_3 a0_4 a0_5 _ _ l0_6 a0_7 t109 _ ?side1 ?side2 A2.out (Door.Laid.on hG_.out (by repeat (first | (with_reducible first | exact HB.out | exact Below.refl _ _ | apply below_alloc | apply pw_below_drewN | apply below_drew1) | exact HB.out | exact Below.refl _ _)))).mono ?_); (case side1 => repeat (first | exact (Kd.C_below HR0_6.out HB.out) | (with_reducible refine Kd.C_alloc ?_ _) | (with_reducible refine Kd.C_drewN ?_ _) | (with_reducible refine Kd.C_drew ?_))); (case side2 => exact HC0_6.out); rintro e w5 ⟨v110, rfl, ho0, hb⟩; refine ⟨_, rfl, ?_⟩; have n0_ := Aside0.mk (Kd.R_lower ho0 (below_size (by repeat (first | (with_reducible first | exact HB.out | apply below_alloc | apply pw_below_drewN | apply below_drew1 | refine below_set ?_ GE108.out) | exact HB.out)))); have n1_ := Aside0.mk (blk_below (g := gb108) (o := .cells #[.int .i64 a0_0, .int .i64 a0_1, .int .i64 a0_2, .int .i64 a0_3, .int .i64 a0_4, .string a0_5, .slice A0_6 l0_6.length c0_6, .bool a0_7] 33 (0, 0)) (by (with_reducible repeat (first | refine blk_drewN ?_ _ | refine blk_drew ?_ | refine blk_alloc ?_ _)); exact BK108.out) hb); have n2_ := Aside0.mk (below_step (by repeat (first | (with_reducible first | exact HB.out | apply below_alloc | apply pw_below_drewN | apply below_drew1 | refine below_set ?_ GE108.out) | exact HB.out)) hb); clear BK108; clear HB; have HO111 := n0_; have BK108 := n1_; have HB := n2_; clear n0_ n1_ n2_; (try clear hb); (try clear hb2); (try clear hk); (try clear hi); (try clear ho0)))
  go_ret
  exact ⟨_, by first | rfl | (simp [errW_none, errW_some] <;> rfl) | (simp [*, errW_none, errW_some] <;> rfl), by (with_reducible repeat (first | apply Kd.R_alloc | apply Kd.R_drewN | apply Kd.R_drew)); exact HO111.out, by repeat (first | (with_reducible first | exact HB.out | apply below_alloc | apply pw_below_drewN | apply below_drew1 | refine below_set ?_ GE108.out) | exact HB.out)⟩

end Go.Proofs.YtbjdiaefchcbjaaDoor.PKindResults
