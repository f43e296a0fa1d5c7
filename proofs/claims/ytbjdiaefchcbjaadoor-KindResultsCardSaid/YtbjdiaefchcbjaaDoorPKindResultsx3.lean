-- written by wip/print2.py
import Derived.Test.YtbjdiaefchcbjaaDoorPKindResultsx0
namespace Go.Proofs.YtbjdiaefchcbjaaDoor.PKindResults
open Go.RowKit Go.Proofs.YtbjdiaefchcbjaaDoorW.PrintWords Go.Proofs.YtbjdiaefchcbjaaDoorW.PrintLast Go.Proofs.YtbjdiaefchcbjaaDoorW.PrintMore
attribute [local go_sem] max2_int min2_int max_two min_two max_three min_three max_four min_four   -- for this text's walks alone
set_option linter.unusedVariables false
set_option linter.unusedSimpArgs false

/-! ### kind_fieldsOf: function 28 -/
def fieldsL (k : Int) : ByteArray := if 0 ≤ k ∧ k < 26 then Door.kind_fields_tab.getD k.toNat ByteArray.empty else ByteArray.empty
def kind_fieldsOf.f (a0 : Int) : Option ByteArray := some (fieldsL a0)
set_option maxRecDepth 100000 in
theorem fieldsOf_same (a0 : Int) (w : World) (hG : Door.Laid w) :
    Calls Tryd.prog 28 #[.int .i64 a0] w fun e w' => e = .returned (.string (fieldsL a0)) ∧ w' = w := by
  by_cases h0 : a0 < 0
  · have e : fieldsL a0 = ByteArray.empty := by unfold fieldsL; rw [if_neg (by omega)]
    have E := Aside0.mk e
    clear e
    go_enter Tryd.func28, Tryd.ntmps28
    go_wp2
    go_ret
    exact ⟨by rw [E.out]; rfl, rfl⟩
  · by_cases h1 : a0 < 26
    · obtain ⟨n, rfl⟩ := Int.eq_ofNat_of_zero_le (show 0 ≤ a0 by omega)
      have e : fieldsL (n : Int) = Door.kind_fields_tab.getD n ByteArray.empty := by unfold fieldsL; rw [if_pos (by omega)]; rfl
      have hc := hG.kind_fields_at n (by omega)
      obtain ⟨s, hs⟩ : ∃ s, Door.kind_fields_tab.getD n ByteArray.empty = s := ⟨_, rfl⟩
      rw [hs] at hc e
      have E := Aside0.mk e
      clear hs
      have h2 : ¬ (n : Int) ≥ 26 := by omega
      clear e hG
      go_enter Tryd.func28, Tryd.ntmps28
      go_wp2
      go_ret
      exact ⟨by rw [E.out]; rfl, rfl⟩
    · have e : fieldsL a0 = ByteArray.empty := by unfold fieldsL; rw [if_neg (by omega)]
      have E := Aside0.mk e
      have h2 : a0 ≥ 26 := by omega
      clear e hG
      go_enter Tryd.func28, Tryd.ntmps28
      go_wp2
      go_ret
      exact ⟨by rw [E.out]; rfl, rfl⟩
theorem kind_fieldsOf.calls (a0 : Int) (r : ByteArray) (w : World) (h : kind_fieldsOf.f a0 = some r) (hG : Door.Laid w) :
    Calls Tryd.prog 28 #[.int .i64 a0] w fun e w' => e = .returned (.string r) ∧ Drawn0 w w' :=
  (fieldsOf_same a0 w hG).mono fun e w' h' => ⟨by rw [h'.1]; exact congrArg (fun x => Ending.returned (.string x)) (Option.some.inj h), by rw [h'.2]; exact Drawn0.refl w⟩

/-! ### slices_Clone_int_int: function 36 -/
def slices_Clone_int_int.f (l0 : List Int) : Option (List Int) := (some (([] : List Int) : List Int)).bind fun y102 => (if y102.length + l0.length < 17592186044416 then (some (y102 ++ l0)) else (none))
set_option maxHeartbeats 8000000 in
set_option maxRecDepth 100000 in
theorem slices_Clone_int_int.calls (A0 : Option Addr) (c0 : Nat) (l0 : List Int) (r : List Int) (w : World) (hr0 : Kd.C (Kd.int .i64) w A0 l0.length l0) (hc0 : l0.length ≤ c0) (h : slices_Clone_int_int.f l0 = some r) :
    Calls Tryd.prog 36 #[.slice A0 l0.length c0] w fun e w' => ∃ v0_ : Value, e = .returned (v0_) ∧ Kd.R (Kd.int .i64) 3 w' w.heap.size (fun _ => True) v0_ r ∧ Below w.heap.size w w' := by
  have HR0 := Aside0.mk hr0
  have HC0 := Aside0.mk hc0
  clear hr0 hc0
  have HB := Aside0.mk (Below.refl w.heap.size w)
  obtain rfl | ⟨adN, rfl⟩ : A0 = none ∨ ∃ a_, A0 = some a_ := by cases A0 <;> simp
  · have hz : l0 = [] := by
      by_cases hz : l0.length = 0
      · exact List.length_eq_zero_iff.1 hz
      · obtain ⟨ad_, e_, _⟩ := Kd.at_int HR0.out 0 (by omega) (by omega)
        cases e_
    subst hz
    obtain rfl : r = [] := by
      revert h
      unfold slices_Clone_int_int.f
      intro h
      simp only [Option.bind_some] at h
      split at h <;> first | exact (Option.some.inj h).symm | cases h | skip
    have q_ := (show ∀ (w : World) (a : Option Addr) (n c n' c' : Nat), (binOp .eql 31 (.slice a n c) (.slice none n' c')).run Tryd.prog w = .ok (.bool a.isNone) w from fun w a n c n' c' => Lib.run_eql_slice_nil w _ _ a n c n' c' Tryd.underlying31)
    go_enter Tryd.func36, Tryd.ntmps36
    go_wp2
    go_ret
    exact ⟨_, rfl, Kd.R_nil _ _ _ _ _, HB.out⟩
  have q_ := (show ∀ (w : World) (a : Option Addr) (n c n' c' : Nat), (binOp .eql 31 (.slice a n c) (.slice none n' c')).run Tryd.prog w = .ok (.bool a.isNone) w from fun w a n c n' c' => Lib.run_eql_slice_nil w _ _ a n c n' c' Tryd.underlying31)
  have H : ((some (([] : List Int) : List Int)).bind fun y102 => (if y102.length + l0.length < 17592186044416 then (some (y102 ++ l0)) else (none))) = some r := h
  clear h
  obtain ⟨y102, hy102⟩ : ∃ y_ : List Int, y_ = (([] : List Int)) := ⟨_, rfl⟩
  replace H : (if y102.length + l0.length < 17592186044416 then (some (y102 ++ l0)) else (none)) = some r := by first | (rw [hy102]; with_reducible exact H) | (have H2_ := (Option.bind_some _ _).symm.trans H; rw [hy102]; with_reducible exact H2_) | (have H2_ := (Option.bind_some _ _).symm.trans H; with_reducible exact H2_) | with_reducible exact H | (rw [hy102]; exact H) | exact H
  have Ny102 := Aside0.mk hy102
  clear hy102
  by_cases c2 : y102.length + l0.length < 17592186044416
  · rw [if_pos c2] at H
    have LMc2 := Aside0.mk c2
    clear c2
    obtain ⟨y105, hy105⟩ : ∃ y_ : List Int, y_ = (y102 ++ l0) := ⟨_, rfl⟩
    replace H : (some y105) = some r := by first | (rw [hy105]; with_reducible exact H) | (have H2_ := (Option.bind_some _ _).symm.trans H; rw [hy105]; with_reducible exact H2_) | (have H2_ := (Option.bind_some _ _).symm.trans H; with_reducible exact H2_) | with_reducible exact H | (rw [hy105]; exact H) | exact H
    have Ny105 := Aside0.mk hy105
    clear hy105
    obtain rfl := Option.some.inj H
    go_enter Tryd.func36, Tryd.ntmps36
    go_wp2_with (first | ((with_reducible refine gate_dst (N := 5) rfl ?_); refine Kd.R_lit (Kd.int .i64) _ 3 ?hg (N := 5) ?hd (xs := ([] : List Int)) (inner := []) (ok := fun _ => True) (okp := fun _ => True) ?hr ?hp (fun _ hk => hk) trivial (Below.refl _ _) (Nat.le_refl _) (by simp) ?_; (case hd => rfl); (case hg => rfl); (case hr => first | (go_simp; done) | (go_simp; rfl)); (case hp => exact (Reps.none _ _)); intro v103 w3 ho4 hb hg_ hnew_; clear hg_ hnew_; (first | rw [← Ny102.out] at ho4 | (simp only [Int.reduceToNat] at ho4; rw [← Ny102.out] at ho4)); have n0_ := Aside0.mk (Kd.R_lower ho4 (below_size (by repeat (first | (with_reducible first | exact HB.out | apply below_alloc | apply pw_below_drewN | apply below_drew1) | exact HB.out)))); have n1_ := Aside0.mk (below_step (by repeat (first | (with_reducible first | exact HB.out | apply below_alloc | apply pw_below_drewN | apply below_drew1) | exact HB.out)) hb); clear HB; have HO104 := n0_; have HB := n1_; clear n0_ n1_; clear hb ho4) | ((with_reducible refine gate_builtin (b := .append) (xs := #[.tmp 5, .tmp 6]) rfl ?_); at_builtin; refine Kd.R_append_rows (Kd.int .i64) (w0 := w) w.heap.size rfl (.tmp 5) (.tmp 6) 31 3 (.int .i64 0) 8 rfl Tryd.underlying31 info3 rfl (by decide) (by omega) v103 y102 l0 _ _ _ (fun _ => True) (fun _ => False) rfl rfl ?aO ?aR (fun _ _ h => h) (fun _ h => h.elim) ?aF ?aB ?aS ?aL ?_; (case aR => repeat (first | exact (Kd.C_below HR0.out HB.out) | (with_reducible refine Kd.C_alloc ?_ _) | (with_reducible refine Kd.C_drewN ?_ _) | (with_reducible refine Kd.C_drew ?_))); (case aB => exact (by repeat (first | (with_reducible first | exact HB.out | apply below_alloc | apply pw_below_drewN | apply below_drew1) | exact HB.out))); (case aF => exact (fun _ _ => trivial)); (case aO => exact (by (with_reducible repeat (first | apply Kd.R_alloc | apply Kd.R_drewN | apply Kd.R_drew)); exact HO104.out)); (case aS => exact (below_size (by repeat (first | (with_reducible first | exact HB.out | apply below_alloc | apply pw_below_drewN | apply below_drew1) | exact HB.out)))); (case aL => have := LMc2.out; omega); intro v106 w5 ho hb hg hat; rw [← Ny105.out] at ho; have n0_ := Aside0.mk (hb); have n1_ := Aside0.mk (ho); clear HB; clear HO104; have HB := n0_; have HO107 := n1_; clear n0_ n1_; clear ho hb hg hat))
    go_ret
    exact ⟨_, by first | rfl | (simp [errW_none, errW_some] <;> rfl) | (simp [*, errW_none, errW_some] <;> rfl), by (with_reducible repeat (first | apply Kd.R_alloc | apply Kd.R_drewN | apply Kd.R_drew)); exact HO107.out, by repeat (first | (with_reducible first | exact HB.out | apply below_alloc | apply pw_below_drewN | apply below_drew1) | exact HB.out)⟩
  · rw [if_neg c2] at H
    exact absurd H (by simp)

/-! ### kind_plain: function 27 -/
set_option linter.unusedVariables false
set_option linter.unusedSimpArgs false
theorem three_allocs (w : World) (a b c : Obj) : (((w.alloc a).alloc b).alloc c).heap[w.heap.size]? = some a ∧ (((w.alloc a).alloc b).alloc c).heap[w.heap.size + 1]? = some b ∧ (((w.alloc a).alloc b).alloc c).heap[w.heap.size + 2]? = some c := by
  refine ⟨?_, ?_, ?_⟩
  · rw [heap_alloc_old _ _ (by simp; omega), heap_alloc_old _ _ (by simp)]; exact heap_alloc_new w a
  · rw [heap_alloc_old _ _ (by simp)]; have := heap_alloc_new (w.alloc a) b; rwa [World.size_alloc] at this
  · have := heap_alloc_new ((w.alloc a).alloc b) c; rwa [World.size_alloc, World.size_alloc] at this
def hasF (k : Int) (c : UInt8) : Bool := (fieldsL k).data.toList.contains c
def inF (p : List UInt8) (c : UInt8) {α : Type} (x y : α) : α := if p.contains c then x else y
theorem inF_nil (c : UInt8) {α : Type} (x y : α) : inF [] c x y = y := by unfold inF; simp
theorem inF_snoc (p : List UInt8) (c d : UInt8) {α : Type} (x y : α) : inF (p ++ [d]) c x y = if d = c then x else inF p c x y := by
  unfold inF
  by_cases h : d = c
  · subst h; simp
  · have h' : (c == d) = false := beq_eq_false_iff_ne.2 (fun e => h e.symm)
    have : (p ++ [d]).contains c = p.contains c := by rw [List.contains_eq_mem, List.contains_eq_mem]; simp only [List.mem_append, List.mem_singleton]; rw [Bool.eq_iff_iff]; simp only [decide_eq_true_eq]; exact ⟨fun h1 => h1.elim id (fun e => absurd e.symm h), .inl⟩
    rw [this, if_neg h]
def kind_plain.f (a0_0 a0_1 a0_2 a0_3 a0_4 : Int) (a0_5 : ByteArray) (l0_6 : List Int) (a0_7 : Bool) : Option (Int × Int × Int × Int × Int × ByteArray × List Int × Bool) :=
  if l0_6.length < 17592186044416 then some (a0_0, (if hasF a0_0 65 then a0_1 else 0), (if hasF a0_0 66 then a0_2 else 0), (if hasF a0_0 67 then a0_3 else 0), (if hasF a0_0 78 then a0_4 else 0), (if hasF a0_0 83 then a0_5 else ByteArray.empty), (if hasF a0_0 76 then l0_6 else []), (if hasF a0_0 75 then a0_7 else false)) else none
/-- How things lie when the bytes p are through. -/
structure PlSt (w : World) (K a b c n : Int) (s : ByteArray) (A : Option Addr) (cp : Nat) (l : List Int) (st : Bool) (f : ByteArray) (p : List UInt8) (W : World) : Prop where
  bel : Below w.heap.size w W
  o : W.heap[w.heap.size]? = some (.cells #[.int .i64 K, .int .i64 a, .int .i64 b, .int .i64 c, .int .i64 n, .string s, .slice A l.length cp, .bool st] 33 (0, 0))
  res : W.heap[w.heap.size + 1]? = some (.cells #[.int .i64 0, .int .i64 0, .int .i64 0, .int .i64 0, .int .i64 0, .string ByteArray.empty, .slice none 0 0, .bool false] 33 (0, 0))
  by_ : ReadsInt W .u8 (some ⟨w.heap.size + 3, 0, none⟩) f.size (bytesOf f)
  sz : w.heap.size + 3 < W.heap.size
  out : ∃ v, W.heap[w.heap.size + 2]? = some (.cells #[.int .i64 K, .int .i64 (inF p 65 a 0), .int .i64 (inF p 66 b 0), .int .i64 (inF p 67 c 0), .int .i64 (inF p 78 n 0), .string (inF p 83 s ByteArray.empty), v, .bool (inF p 75 st false)] 33 (0, 0)) ∧
    Kd.R (Kd.int .i64) 3 W (w.heap.size + 4) (fun _ => True) v (inF p 76 l [])
theorem byte_ne (d e : UInt8) (h : ¬ d = e) : ((d.toNat : Int) == (e.toNat : Int)) = false := beq_eq_false_iff_ne.2 (fun h' => h (UInt8.toNat_inj.1 (by omega)))
theorem clone_is (l : List Int) (hl : l.length < 17592186044416) : slices_Clone_int_int.f l = some l := by
  unfold slices_Clone_int_int.f
  rw [Option.bind_some, List.length_nil, Nat.zero_add, if_pos hl, List.nil_append]
theorem PlSt.put {w : World} {K a b c n : Int} {s : ByteArray} {A : Option Addr} {cp : Nat} {l : List Int} {st : Bool} {f : ByteArray} {p p' : List UInt8} {W : World} (h : PlSt w K a b c n s A cp l st f p W) (j : Nat) (u : Value)
    (hc : ∀ v, (#[.int .i64 K, .int .i64 (inF p 65 a 0), .int .i64 (inF p 66 b 0), .int .i64 (inF p 67 c 0), .int .i64 (inF p 78 n 0), .string (inF p 83 s ByteArray.empty), v, .bool (inF p 75 st false)] : Array Value).setIfInBounds j u = #[.int .i64 K, .int .i64 (inF p' 65 a 0), .int .i64 (inF p' 66 b 0), .int .i64 (inF p' 67 c 0), .int .i64 (inF p' 78 n 0), .string (inF p' 83 s ByteArray.empty), v, .bool (inF p' 75 st false)])
    (hl : inF p' 76 l [] = inF p 76 l []) : PlSt w K a b c n s A cp l st f p' (W.setCell ⟨w.heap.size + 2, j, none⟩ u) := by
  obtain ⟨hbel, ho, hres, hby, hsz, v, hout, hR⟩ := h
  have hne : ∀ k, k ≠ w.heap.size + 2 → (W.setCell ⟨w.heap.size + 2, j, none⟩ u).heap[k]? = W.heap[k]? := fun k hk => Below.heap_setCell W ⟨w.heap.size + 2, j, none⟩ u k hk
  refine ⟨hbel.setCell (p := ⟨w.heap.size + 2, j, none⟩) (by show w.heap.size ≤ w.heap.size + 2; omega) _, (hne _ (by omega)).trans ho, (hne _ (by omega)).trans hres, ⟨hby.1, hby.2.1, fun hn => ?_⟩, by simp [World.setCell]; omega, v, ?_, ?_⟩
  · obtain ⟨ad, e, hc'⟩ := hby.2.2 hn
    cases e
    refine ⟨_, rfl, fun i hi => ?_⟩
    have := hc' i hi
    rw [add_plain] at this ⊢
    exact (World.cell?_of_block (hne _ (by show w.heap.size + 3 ≠ w.heap.size + 2; omega))).trans this
  · have := blk_set hout j u
    rw [hc v] at this; exact this
  · rw [hl]
    exact Kd.R_mono (Kd.R_far (p := ⟨w.heap.size + 2, j, none⟩) (Kd.R_bound hR) (fun k hk => by have := hk.2.1; show k ≠ w.heap.size + 2; omega) _) (fun _ _ => trivial)
theorem PlSt.same {w : World} {K a b c n : Int} {s : ByteArray} {A : Option Addr} {cp : Nat} {l : List Int} {st : Bool} {f : ByteArray} {p : List UInt8} {W : World} (h : PlSt w K a b c n s A cp l st f p W) (d : UInt8)
    (hd : d ≠ 78 ∧ d ≠ 83 ∧ d ≠ 65 ∧ d ≠ 66 ∧ d ≠ 67 ∧ d ≠ 76 ∧ d ≠ 75) : PlSt w K a b c n s A cp l st f (p ++ [d]) W := by
  obtain ⟨hbel, ho, hres, hby, hsz, v, hout, hR⟩ := h
  refine ⟨hbel, ho, hres, hby, hsz, v, ?_, ?_⟩
  · simp only [inF_snoc, if_neg hd.1, if_neg hd.2.1, if_neg hd.2.2.1, if_neg hd.2.2.2.1, if_neg hd.2.2.2.2.1, if_neg hd.2.2.2.2.2.2]; exact hout
  · rw [inF_snoc, if_neg hd.2.2.2.2.2.1]; exact hR
set_option maxHeartbeats 2000000 in
set_option maxRecDepth 100000 in
theorem kind_plain.calls (a0_0 : Int) (a0_1 : Int) (a0_2 : Int) (a0_3 : Int) (a0_4 : Int) (a0_5 : ByteArray) (A0_6 : Option Addr) (c0_6 : Nat) (l0_6 : List Int) (a0_7 : Bool) (r1 : Int) (r2 : Int) (r3 : Int) (r4 : Int) (r5 : Int) (r6 : ByteArray) (r7 : List Int) (r8 : Bool) (w : World) (hr0_6 : Kd.C (Kd.int .i64) w A0_6 l0_6.length l0_6) (hc0_6 : l0_6.length ≤ c0_6) (h : kind_plain.f a0_0 a0_1 a0_2 a0_3 a0_4 a0_5 l0_6 a0_7 = some (r1, r2, r3, r4, r5, r6, r7, r8)) (hG : Door.Laid w) :
    Calls Tryd.prog 27 #[.agg #[.int .i64 a0_0, .int .i64 a0_1, .int .i64 a0_2, .int .i64 a0_3, .int .i64 a0_4, .string a0_5, .slice A0_6 l0_6.length c0_6, .bool a0_7]] w fun e w' => ∃ v6_ : Value, e = .returned (.agg #[.int .i64 r1, .int .i64 r2, .int .i64 r3, .int .i64 r4, .int .i64 r5, .string r6, v6_, .bool r8]) ∧ Kd.R (Kd.int .i64) 3 w' w.heap.size (fun _ => True) v6_ r7 ∧ Below w.heap.size w w' := by
  unfold kind_plain.f at h
  split at h
  rotate_left
  · cases h
  rename_i hll
  have hrr := Aside0.mk (Option.some.inj h)
  have HLL := Aside0.mk hll
  have HR := Aside0.mk hr0_6
  have HC := Aside0.mk hc0_6
  have HG := Aside0.mk hG
  clear h hll hr0_6 hc0_6 hG
  obtain ⟨f, hf⟩ : ∃ f, fieldsL a0_0 = f := ⟨_, rfl⟩
  have hfs : f.size ≤ 8 := by
    rw [← hf]; unfold fieldsL; split
    · rename_i h
      have : ∀ n : Fin 26, (Door.kind_fields_tab.getD n.val ByteArray.empty).size ≤ 8 := by decide +kernel
      exact this ⟨a0_0.toNat, by omega⟩
    · decide
  have HF := Aside0.mk hf
  clear hf
  have kb := fun W => print_bytes (P := Tryd.prog) 9 55 5 Tryd.underlying9 Tryd.underlying55 Tryd.underlying5 f W
  go_enter Tryd.func27, Tryd.ntmps27
  go_wp2_with (first
    | (go_at_call 28; refine (fieldsOf_same a0_0 _ (HG.out.on (((below_alloc (below_alloc (below_alloc (Below.refl _ _) _) _) _)))) ).mono ?_; rintro e w' ⟨rfl, rfl⟩; rw [HF.out]))
  have hst0 : ∀ W0, W0 = ((w.alloc (.cells #[.int .i64 a0_0, .int .i64 a0_1, .int .i64 a0_2, .int .i64 a0_3, .int .i64 a0_4, .string a0_5, .slice A0_6 l0_6.length c0_6, .bool a0_7] 33)).alloc (.cells #[.int .i64 0, .int .i64 0, .int .i64 0, .int .i64 0, .int .i64 0, .string ByteArray.empty, .slice none 0 0, .bool false] 33)).alloc (.cells #[.int .i64 a0_0, .int .i64 0, .int .i64 0, .int .i64 0, .int .i64 0, .string ByteArray.empty, .slice none 0 0, .bool false] 33) →
      PlSt w a0_0 a0_1 a0_2 a0_3 a0_4 a0_5 A0_6 c0_6 l0_6 a0_7 f [] (Lib.bytesWorld W0 5 f) := by
    intro W0 hW0
    have hs0 : W0.heap.size = w.heap.size + 3 := by rw [hW0]; simp
    have hold : ∀ k, k < W0.heap.size → (Lib.bytesWorld W0 5 f).heap[k]? = W0.heap[k]? := fun k hk => Lib.bytesWorld_at_old W0 _ f k hk
    refine ⟨?_, ?_, ?_, ?_, ?_, .slice none 0 0, ?_, ?_⟩
    · exact bytes_below (by rw [hW0]; exact below_alloc (below_alloc (below_alloc (Below.refl _ _) _) _) _) (by omega) _ _
    · rw [hold _ (by omega), hW0]; exact (three_allocs w _ _ _).1
    · rw [hold _ (by omega), hW0]; exact (three_allocs w _ _ _).2.1
    · have := bytes_reads W0 5 f (by omega); rw [hs0] at this; exact this
    · rw [Lib.bytesWorld_size]; omega
    · rw [hold _ (by omega), hW0]; simp only [inF_nil]; exact (three_allocs w _ _ _).2.2
    · rw [inF_nil]; exact Kd.R_nil _ _ _ _ _
  have HST := Aside0.mk (hst0 _ rfl)
  clear hst0 kb
  go_loopw [14] (fun v14 wr => ∃ k : Nat, v14 = .int .i64 k ∧ k ≤ f.size ∧ Aside0 (PlSt w a0_0 a0_1 a0_2 a0_3 a0_4 a0_5 A0_6 c0_6 l0_6 a0_7 f (f.data.toList.take k) wr)) (fun v14 _ => f.size - (intOf v14).toNat)
  case atStart => exact ⟨0, rfl, Nat.zero_le _, HST⟩
  case round =>
    obtain ⟨k, rfl, hk, HS⟩ := hrel
    clear HST
    by_cases hlt : k < f.size
    · obtain ⟨hbel, ho, hres, hby, hsz, v, hout, hR⟩ := HS.out
      have hsn : f.data.toList.take (k + 1) = f.data.toList.take k ++ [f[k]] := by
        rw [List.take_succ_eq_append_getElem (by rw [data_length]; exact hlt)]; rfl
      have q0 : wr.cell? ⟨w.heap.size + 3, k, none⟩ = some (.int .u8 f[k].toNat) := by
        obtain ⟨ad, e, hc⟩ := hby.2.2 (by omega)
        cases e
        have := hc k hlt
        rw [add_plain] at this
        rw [this]
        have hk' : k < f.data.toList.length := by rw [data_length]; exact hlt
        simp [bytesOf, List.getD_eq_getElem?_getD, List.getElem?_eq_getElem hk']
        rfl
      have o1 := blk_cell ho 1
      have o2 := blk_cell ho 2
      have o3 := blk_cell ho 3
      have o4 := blk_cell ho 4
      have o5 := blk_cell ho 5
      have o6 := blk_cell ho 6
      have o7 := blk_cell ho 7
      have z1 := blk_frozen hout 1
      have z2 := blk_frozen hout 2
      have z3 := blk_frozen hout 3
      have z4 := blk_frozen hout 4
      have z5 := blk_frozen hout 5
      have z7 := blk_frozen hout 7
      have p1 := blk_cell hout 1
      have p2 := blk_cell hout 2
      have p3 := blk_cell hout 3
      have p4 := blk_cell hout 4
      have p5 := blk_cell hout 5
      have p7 := blk_cell hout 7
      have hb0 : 0 ≤ (k : Int) := by omega
      obtain ⟨d, hd⟩ : ∃ d, f[k] = d := ⟨_, rfl⟩
      rw [hd] at hsn q0
      have HSN := Aside0.mk hsn
      clear hd hsn hbel ho hres hby hout hR
      by_cases h78 : d = 78
      · subst h78
        go_wp2
        refine ⟨⟨k + 1, by go_num, by omega, ⟨?_⟩⟩, by simp [intOf]; omega⟩
        rw [HSN.out]
        exact HS.out.put 4 _ (fun v => by simp [inF_snoc]) (by simp [inF_snoc])
      by_cases h83 : d = 83
      · subst h83
        go_wp2
        refine ⟨⟨k + 1, by go_num, by omega, ⟨?_⟩⟩, by simp [intOf]; omega⟩
        rw [HSN.out]
        exact HS.out.put 5 _ (fun v => by simp [inF_snoc]) (by simp [inF_snoc])
      by_cases h65 : d = 65
      · subst h65
        go_wp2
        refine ⟨⟨k + 1, by go_num, by omega, ⟨?_⟩⟩, by simp [intOf]; omega⟩
        rw [HSN.out]
        exact HS.out.put 1 _ (fun v => by simp [inF_snoc]) (by simp [inF_snoc])
      by_cases h66 : d = 66
      · subst h66
        go_wp2
        refine ⟨⟨k + 1, by go_num, by omega, ⟨?_⟩⟩, by simp [intOf]; omega⟩
        rw [HSN.out]
        exact HS.out.put 2 _ (fun v => by simp [inF_snoc]) (by simp [inF_snoc])
      by_cases h67 : d = 67
      · subst h67
        go_wp2
        refine ⟨⟨k + 1, by go_num, by omega, ⟨?_⟩⟩, by simp [intOf]; omega⟩
        rw [HSN.out]
        exact HS.out.put 3 _ (fun v => by simp [inF_snoc]) (by simp [inF_snoc])
      by_cases h75 : d = 75
      · subst h75
        go_wp2
        refine ⟨⟨k + 1, by go_num, by omega, ⟨?_⟩⟩, by simp [intOf]; omega⟩
        rw [HSN.out]
        exact HS.out.put 7 _ (fun v => by simp [inF_snoc]) (by simp [inF_snoc])
      by_cases h76 : d = 76
      · subst h76
        have HW := Aside0.mk HS.out.bel
        go_wp2_with (first
          | (go_at_call 36; refine (slices_Clone_int_int.calls A0_6 c0_6 l0_6 l0_6 _ (Kd.C_below HR.out HW.out) HC.out (clone_is l0_6 HLL.out)).mono ?_; rintro e W3 ⟨v3, rfl, hR3, hB3⟩; refine Aside0.out ?_))
        refine ⟨?_⟩
        obtain ⟨A3, c3, rfl⟩ := Kd.R_slice hR3
        obtain ⟨hbel, ho, hres, hby, hsz, v, hout, hR⟩ := HS.out
        have hout3 := (hB3.block _ (by omega)).trans hout
        have z6 := blk_frozen hout3 6
        have p6 := blk_cell hout3 6
        have hsz3 : wr.heap.size ≤ W3.heap.size := hB3.size
        have HS3 : Aside0 (PlSt w a0_0 a0_1 a0_2 a0_3 a0_4 a0_5 A0_6 c0_6 l0_6 a0_7 f (f.data.toList.take k ++ [76]) (W3.setCell ⟨w.heap.size + 2, 6, none⟩ (.slice A3 l0_6.length c3))) := by
          have hne : ∀ k, k ≠ w.heap.size + 2 → (W3.setCell ⟨w.heap.size + 2, 6, none⟩ (.slice A3 l0_6.length c3)).heap[k]? = W3.heap[k]? := fun k hk => Below.heap_setCell W3 ⟨w.heap.size + 2, 6, none⟩ _ k hk
          refine ⟨⟨(hbel.trans (hB3.mono (by omega))).setCell (p := ⟨w.heap.size + 2, 6, none⟩) (by show w.heap.size ≤ w.heap.size + 2; omega) _, (hne _ (by omega)).trans ((hB3.block _ (by omega)).trans ho), (hne _ (by omega)).trans ((hB3.block _ (by omega)).trans hres), ⟨hby.1, hby.2.1, fun hn => ?_⟩, by simp [World.setCell]; omega, .slice A3 l0_6.length c3, ?_, ?_⟩⟩
          · obtain ⟨ad, e, hc'⟩ := hby.2.2 hn
            cases e
            refine ⟨_, rfl, fun i hi => ?_⟩
            have := hc' i hi
            rw [add_plain] at this ⊢
            exact (World.cell?_of_block (hne _ (by show w.heap.size + 3 ≠ w.heap.size + 2; omega))).trans (hB3.cell (p := ⟨w.heap.size + 3, i, none⟩) (by show w.heap.size + 3 < wr.heap.size; omega) |>.trans this)
          · have := blk_set hout3 6 (.slice A3 l0_6.length c3)
            rw [this]
            simp [inF_snoc]
          · rw [inF_snoc, if_pos rfl]
            exact Kd.R_mono (Kd.R_far (p := ⟨w.heap.size + 2, 6, none⟩) (Kd.R_bound (Kd.R_lower hR3 (by omega))) (fun k hk => by have := hk.2.1; show k ≠ w.heap.size + 2; omega) _) (fun _ _ => trivial)
        clear hout hout3 ho hres hby hR hR3 hB3 hbel
        go_wp2
        refine ⟨⟨k + 1, by go_num, by omega, ⟨?_⟩⟩, by simp [intOf]; omega⟩
        rw [HSN.out]
        exact HS3.out
      · have e78 : ((d.toNat : Int) == 78) = false := byte_ne d 78 h78
        have e83 : ((d.toNat : Int) == 83) = false := byte_ne d 83 h83
        have e65 : ((d.toNat : Int) == 65) = false := byte_ne d 65 h65
        have e66 : ((d.toNat : Int) == 66) = false := byte_ne d 66 h66
        have e67 : ((d.toNat : Int) == 67) = false := byte_ne d 67 h67
        have e75 : ((d.toNat : Int) == 75) = false := byte_ne d 75 h75
        have e76 : ((d.toNat : Int) == 76) = false := byte_ne d 76 h76
        have hoth := Aside0.mk (And.intro h78 (And.intro h83 (And.intro h65 (And.intro h66 (And.intro h67 (And.intro h76 h75))))))
        clear h78 h83 h65 h66 h67 h75 h76
        go_wp2
        refine ⟨⟨k + 1, by go_num, by omega, ⟨?_⟩⟩, by simp [intOf]; omega⟩
        rw [HSN.out]
        exact HS.out.same d hoth.out
    · obtain ⟨hbel, ho, hres, hby, hsz, v, hout, hR⟩ := HS.out
      have hke : k = f.size := by omega
      have hfull : f.data.toList.take k = f.data.toList := List.take_of_length_le (by rw [data_length]; omega)
      rw [hfull] at hout hR
      have hge : ¬ ((k : Int) < (f.size : Int)) := by omega
      obtain ⟨A3, c3, rfl⟩ := Kd.R_slice hR
      have HRR := Aside0.mk hR
      have hz := blk_frozen hres
      have hp := blk_cell hres
      have hq := blk_cell hout
      have HRES := Aside0.mk hres
      have HBEL := Aside0.mk hbel
      clear hke hfull hbel ho hres hby hR hout
      go_wp2
      have hne : ∀ (V : World) (i j : Nat) (u : Value), j ≠ w.heap.size + 1 → (V.setCell ⟨w.heap.size + 1, i, none⟩ u).heap[j]? = V.heap[j]? := fun V i j u hj => Below.heap_setCell V ⟨w.heap.size + 1, i, none⟩ u j hj
      have hB : ∀ (V : World) (i : Nat) (u : Value), Below w.heap.size w V → Below w.heap.size w (V.setCell ⟨w.heap.size + 1, i, none⟩ u) := fun V i u h => h.setCell (p := ⟨w.heap.size + 1, i, none⟩) (by show w.heap.size ≤ w.heap.size + 1; omega) _
      have e := hrr.out
      simp only [Prod.mk.injEq] at e
      obtain ⟨rfl, rfl, rfl, rfl, rfl, rfl, rfl, rfl⟩ := e
      have hin : ∀ (c : UInt8) {α : Type} (x y : α), (if hasF a0_0 c = true then x else y) = inF f.data.toList c x y := fun c α x y => by unfold hasF inF; rw [HF.out]
      simp only [hin]
      refine bodyPost_ret (results_cell_row rfl _ _ (w.heap.size + 1) 33 #[.int .i64 a0_0, .int .i64 (inF f.data.toList 65 a0_1 0), .int .i64 (inF f.data.toList 66 a0_2 0), .int .i64 (inF f.data.toList 67 a0_3 0), .int .i64 (inF f.data.toList 78 a0_4 0), .string (inF f.data.toList 83 a0_5 ByteArray.empty), .slice A3 (inF f.data.toList 76 l0_6 []).length c3, .bool (inF f.data.toList 75 a0_7 false)] (0, 0) _ rfl ?_ Tryd.underlying33 rfl (by kernel_rfl)) rfl ⟨.slice A3 (inF f.data.toList 76 l0_6 []).length c3, rfl, ?_, ?_⟩
      · have h1 := blk_set (blk_set (blk_set (blk_set (blk_set (blk_set (blk_set (blk_set HRES.out 0 (.int .i64 a0_0)) 1 (.int .i64 (inF f.data.toList 65 a0_1 0))) 2 (.int .i64 (inF f.data.toList 66 a0_2 0))) 3 (.int .i64 (inF f.data.toList 67 a0_3 0))) 4 (.int .i64 (inF f.data.toList 78 a0_4 0))) 5 (.string (inF f.data.toList 83 a0_5 ByteArray.empty))) 6 (.slice A3 (inF f.data.toList 76 l0_6 []).length c3)) 7 (.bool (inF f.data.toList 75 a0_7 false))
        rw [h1]
        simp
      · refine Kd.R_mono (Kd.R_lower (Kd.R_move (Kd.R_bound HRR.out) (fun k hk => ?_)) (by omega)) (fun _ _ => trivial)
        have hk1 : k ≠ w.heap.size + 1 := by
          have := hk.2.1
          omega
        simp only [hne _ _ _ _ hk1]
      · exact hB _ _ _ (hB _ _ _ (hB _ _ _ (hB _ _ _ (hB _ _ _ (hB _ _ _ (hB _ _ _ (hB _ _ _ HBEL.out)))))))

end Go.Proofs.YtbjdiaefchcbjaaDoor.PKindResults
