-- written by wip/print2.py
import Derived.Test.YtbjdiaefchcbjaaDoorPKindUsesx0
import Derived.Test.YtbjdiaefchcbjaaDoorPKindUsesx3
import Derived.Test.YtbjdiaefchcbjaaDoorPKindUsesx4
namespace Go.Proofs.YtbjdiaefchcbjaaDoor.PKindUses
open Go.RowKit Go.Proofs.YtbjdiaefchcbjaaDoorW.PrintWords Go.Proofs.YtbjdiaefchcbjaaDoorW.PrintLast Go.Proofs.YtbjdiaefchcbjaaDoorW.PrintMore
attribute [local go_sem] max2_int min2_int max_two min_two max_three min_three max_four min_four   -- for this text's walks alone
set_option linter.unusedVariables false
set_option linter.unusedSimpArgs false

/-! ### kind_Renamed: function 22 -/
open Go.Shelf Iter
attribute [local go_sem] Oper.semAt_some
/-- A number's name. -/
def nm (tl : List Int) (v : Int) : Int := if 0 ≤ v ∧ v < (tl.length : Int) then rd tl v else v
theorem ops1_nodup (K : Int) (Bo : Nat) : (ops1 K Bo 3).Nodup := by
  simp only [ops1, show 0 < 3 from by omega, show 1 < 3 from by omega, show 2 < 3 from by omega, true_and]
  cases hasF K 65 <;> cases hasF K 66 <;> cases hasF K 67 <;> simp
theorem ops1_block {K : Int} {Bo : Nat} {x : Addr} (h : x ∈ ops1 K Bo 3) : (x = ⟨Bo, 1, none⟩ ∧ hasF K 65 = true) ∨ (x = ⟨Bo, 2, none⟩ ∧ hasF K 66 = true) ∨ (x = ⟨Bo, 3, none⟩ ∧ hasF K 67 = true) := by
  simp only [ops1, show 0 < 3 from by omega, show 1 < 3 from by omega, show 2 < 3 from by omega, true_and, List.mem_append] at h
  rcases h with (h | h) | h
  · split at h
    · rename_i e; simp at h; exact .inl ⟨h, e⟩
    · cases h
  · split at h
    · rename_i e; simp at h; exact .inr (.inl ⟨h, e⟩)
    · cases h
  · split at h
    · rename_i e; simp at h; exact .inr (.inr ⟨h, e⟩)
    · cases h
theorem add0 (g j : Nat) : (⟨g, 0, none⟩ : Addr).add j = ⟨g, j, none⟩ := by
  unfold Addr.add
  by_cases h : j = 0
  · subst h; rfl
  · rw [if_neg h]; simp
theorem ops2_mem {g m : Nat} {x : Addr} (h : x ∈ ops2 (some ⟨g, 0, none⟩) m) : ∃ j, j < m ∧ x = ⟨g, j, none⟩ := by
  simp only [ops2, List.mem_map, List.mem_range] at h
  obtain ⟨j, hj, rfl⟩ := h
  exact ⟨j, hj, add0 g j⟩
theorem ops_nodup (K : Int) (Bo g m : Nat) (hg : g ≠ Bo) : (opsAll K Bo (some ⟨g, 0, none⟩) m).Nodup := by
  unfold opsAll
  refine List.nodup_append.2 ⟨ops1_nodup K Bo, ?_, ?_⟩
  · simp only [ops2]
    refine (List.pairwise_map.2 ?_)
    refine List.Pairwise.imp ?_ (List.nodup_range (n := m))
    intro i j hne he
    rw [add0, add0] at he
    exact hne (by injection he)
  · intro x hx y hy he
    subst he
    obtain ⟨j, _, rfl⟩ := ops2_mem hy
    rcases ops1_block hx with h | h | h <;> (have := h.1; injection this with h1; exact hg h1)
theorem ops_nodup0 (K : Int) (Bo : Nat) (A : Option Addr) : (opsAll K Bo A 0).Nodup := by
  have : ops2 A 0 = [] := by unfold ops2; cases A <;> simp
  unfold opsAll
  rw [this, List.append_nil]
  exact ops1_nodup K Bo
open Classical in
/-- How o lies when the values at the places pre have their new names. -/
def ReO (base N0 D Bo : Nat) (K a b c n : Int) (s : ByteArray) (A : Option Addr) (cp : Nat) (l : List Int) (st : Bool) (tl : List Int) (pre : List Addr) (W : World) : Prop :=
  ∃ (v1 v2 v3 : Int) (l' : List Int), W.heap[Bo]? = some (.cells #[.int .i64 K, .int .i64 v1, .int .i64 v2, .int .i64 v3, .int .i64 n, .string s, .slice A l.length cp, .bool st] 33 (0, 0)) ∧
    Kd.R (Kd.int .i64) 3 W base (fun k => base ≤ k ∧ k < N0 ∧ k ≠ D ∧ k ≠ D + 1) (.slice A l'.length cp) l' ∧ l'.length = l.length ∧
    v1 = (if (⟨Bo, 1, none⟩ : Addr) ∈ pre then nm tl a else a) ∧ v2 = (if (⟨Bo, 2, none⟩ : Addr) ∈ pre then nm tl b else b) ∧ v3 = (if (⟨Bo, 3, none⟩ : Addr) ∈ pre then nm tl c else c) ∧
    ∀ g, A = some ⟨g, 0, none⟩ → ∀ j : Nat, l'[j]? = (l[j]?).map (fun v => if (⟨g, j, none⟩ : Addr) ∈ pre then nm tl v else v)
section
variable {base N0 D Bo : Nat} {K a b c n : Int} {s : ByteArray} {A : Option Addr} {cp : Nat} {l : List Int} {st : Bool} {tl : List Int} {pre : List Addr} {W W' : World}
theorem ReO.move (h : ReO base N0 D Bo K a b c n s A cp l st tl pre W) (hBo : Bo < base) (hb : base ≤ N0) (hm : ∀ k, k < N0 → k ≠ D → k ≠ D + 1 → W'.heap[k]? = W.heap[k]?) (hD : Bo ≠ D ∧ Bo ≠ D + 1) : ReO base N0 D Bo K a b c n s A cp l st tl pre W' := by
  obtain ⟨v1, v2, v3, l', h1, h2, h3⟩ := h
  exact ⟨v1, v2, v3, l', (hm _ (by omega) hD.1 hD.2).trans h1, Kd.R_move h2 (fun k hk => hm k hk.2.1 hk.2.2.1 hk.2.2.2), h3⟩
theorem ReO.slice (h : ReO base N0 D Bo K a b c n s A cp l st tl pre W) (hl : 0 < l.length) : ∃ g, A = some ⟨g, 0, none⟩ ∧ base ≤ g ∧ g < N0 ∧ g ≠ D ∧ g ≠ D + 1 := by
  obtain ⟨v1, v2, v3, l', h1, h2, h3, _⟩ := h
  obtain ⟨g, cap, e, hg, _⟩ := Kd.R_form h2 (by omega)
  have e' : A = some ⟨g, 0, none⟩ := by injection e
  subst e'
  have := h2.1 g rfl
  exact ⟨g, rfl, this⟩
theorem ReO.nodup (h : ReO base N0 D Bo K a b c n s A cp l st tl pre W) (hBo : Bo < base) : (opsAll K Bo A l.length).Nodup := by
  by_cases hl : 0 < l.length
  · obtain ⟨g, rfl, hg, _⟩ := h.slice hl
    exact ops_nodup K Bo g _ (by omega)
  · have : l.length = 0 := by omega
    rw [this]; exact ops_nodup0 K Bo A
open Classical in
theorem ReO.at_ (h : ReO base N0 D Bo K a b c n s A cp l st tl pre W) (hBo : Bo < base) {x : Addr} (hp : (pre ++ [x]) <+: opsAll K Bo A l.length) :
    ∃ v, W.cell? x = some (.int .i64 v) ∧ W.frozen? x = false ∧ (x.block = Bo ∨ (base ≤ x.block ∧ x.block < N0 ∧ x.block ≠ D ∧ x.block ≠ D + 1)) ∧
      ReO base N0 D Bo K a b c n s A cp l st tl (pre ++ [x]) (W.setCell x (.int .i64 (nm tl v))) ∧ (nm tl v = v → ReO base N0 D Bo K a b c n s A cp l st tl (pre ++ [x]) W) := by
  have hnd := h.nodup hBo
  have hxn : x ∉ pre := by
    obtain ⟨r, hr⟩ := hp
    rw [← hr] at hnd
    have := (List.nodup_append.1 (List.nodup_append.1 hnd).1).2.2
    exact fun hm => this x hm x (by simp) rfl
  have hx : x ∈ opsAll K Bo A l.length := hp.subset (by simp)
  have hsl := h.slice
  obtain ⟨v1, v2, v3, l', h1, h2, h3, e1, e2, e3, e4⟩ := h
  have hfar : ∀ (j : Nat) (u : Value), Kd.R (Kd.int .i64) 3 (W.setCell ⟨Bo, j, none⟩ u) base (fun k => base ≤ k ∧ k < N0 ∧ k ≠ D ∧ k ≠ D + 1) (.slice A l'.length cp) l' := fun j u => Kd.R_far (p := ⟨Bo, j, none⟩) h2 (fun k hk => by show k ≠ Bo; omega) u
  have hmem : ∀ y : Addr, y ≠ x → (y ∈ pre ++ [x] ↔ y ∈ pre) := fun y hy => by simp [hy]
  have hlist : x.block = Bo → ∀ g, A = some ⟨g, 0, none⟩ → ∀ j : Nat, l'[j]? = (l[j]?).map (fun v => if (⟨g, j, none⟩ : Addr) ∈ pre ++ [x] then nm tl v else v) := fun hxb g hg j => by
    rw [e4 g hg j]
    cases hj : l[j]? with
    | none => rfl
    | some v =>
      have hlt := (List.getElem?_eq_some_iff.1 hj).1
      obtain ⟨g', hg', hb, _⟩ := hsl (by omega)
      rw [hg] at hg'
      have e : g = g' := by injection hg' with h; injection h
      have hne : (⟨g, j, none⟩ : Addr) ≠ x := fun e' => by rw [← e'] at hxb; have : g = Bo := hxb; omega
      simp only [Option.map_some, hmem _ hne]
  unfold opsAll at hx
  rcases List.mem_append.1 hx with hx | hx
  · rcases ops1_block hx with ⟨rfl, hf⟩ | ⟨rfl, hf⟩ | ⟨rfl, hf⟩
    · rw [if_neg hxn] at e1
      subst e1
      refine ⟨v1, blk_cell h1 1, blk_frozen h1 1, .inl rfl, ⟨nm tl v1, v2, v3, l', blk_set h1 1 _, hfar _ _, h3, by simp, by rw [e2]; simp [hmem], by rw [e3]; simp [hmem], hlist rfl⟩, fun hn => ⟨v1, v2, v3, l', h1, h2, h3, by simp [hn], by rw [e2]; simp [hmem], by rw [e3]; simp [hmem], hlist rfl⟩⟩
    · rw [if_neg hxn] at e2
      subst e2
      refine ⟨v2, blk_cell h1 2, blk_frozen h1 2, .inl rfl, ⟨v1, nm tl v2, v3, l', blk_set h1 2 _, hfar _ _, h3, by rw [e1]; simp [hmem], by simp, by rw [e3]; simp [hmem], hlist rfl⟩, fun hn => ⟨v1, v2, v3, l', h1, h2, h3, by rw [e1]; simp [hmem], by simp [hn], by rw [e3]; simp [hmem], hlist rfl⟩⟩
    · rw [if_neg hxn] at e3
      subst e3
      refine ⟨v3, blk_cell h1 3, blk_frozen h1 3, .inl rfl, ⟨v1, v2, nm tl v3, l', blk_set h1 3 _, hfar _ _, h3, by rw [e1]; simp [hmem], by rw [e2]; simp [hmem], by simp, hlist rfl⟩, fun hn => ⟨v1, v2, v3, l', h1, h2, h3, by rw [e1]; simp [hmem], by rw [e2]; simp [hmem], by simp [hn], hlist rfl⟩⟩
  · have hl : 0 < l.length := by
      by_cases h0 : l.length = 0
      · rw [h0] at hx; unfold ops2 at hx; cases A <;> simp at hx
      · omega
    obtain ⟨g, rfl, hg⟩ := hsl hl
    obtain ⟨j, hj, rfl⟩ := ops2_mem hx
    have hgB : g ≠ Bo := by omega
    have hc := Kd.R_cell (enc := fun x : Int => Value.int .i64 x) (h1 := fun _ => rfl) (0 : Int) h2 (j : Int) (by omega) (by omega)
    have hput := (Kd.R_put (enc := fun x : Int => Value.int .i64 x) (h1 := fun _ => rfl) h2 (j : Int) (nm tl (rdOf 0 l' (j : Int)))).1
    rw [Int.toNat_natCast] at hc hput
    have hjl : j < l'.length := by omega
    have hv : l'[j]? = some (rdOf 0 l' (j : Int)) := by
      unfold rdOf
      rw [Int.toNat_natCast, List.getD_eq_getElem?_getD, List.getElem?_eq_getElem hjl]; rfl
    have hlv : l[j]? = some (rdOf 0 l' (j : Int)) := by
      have := e4 g rfl j
      rw [hv, List.getElem?_eq_getElem hj] at this
      simp only [Option.map_some, if_neg hxn] at this
      rw [List.getElem?_eq_getElem hj, this]
    have n1 : (⟨Bo, 1, none⟩ : Addr) ≠ ⟨g, j, none⟩ := fun e => hgB (by injection e with e; exact e.symm)
    have n2 : (⟨Bo, 2, none⟩ : Addr) ≠ ⟨g, j, none⟩ := fun e => hgB (by injection e with e; exact e.symm)
    have n3 : (⟨Bo, 3, none⟩ : Addr) ≠ ⟨g, j, none⟩ := fun e => hgB (by injection e with e; exact e.symm)
    have hrest : ∀ (i : Nat), i ≠ j → l'[i]? = (l[i]?).map (fun v => if (⟨g, i, none⟩ : Addr) ∈ pre ++ [(⟨g, j, none⟩ : Addr)] then nm tl v else v) := fun i hi => by
      rw [e4 g rfl i]
      have : (⟨g, i, none⟩ : Addr) ≠ ⟨g, j, none⟩ := fun e => hi (by injection e)
      simp only [hmem _ this]
    refine ⟨rdOf 0 l' (j : Int), hc.1, hc.2, .inr hg, ⟨v1, v2, v3, l'.set j (nm tl (rdOf 0 l' (j : Int))), ?_, ?_, by rw [List.length_set]; exact h3, by rw [e1]; simp only [hmem _ n1], by rw [e2]; simp only [hmem _ n2], by rw [e3]; simp only [hmem _ n3], ?_⟩, fun hn => ⟨v1, v2, v3, l', h1, h2, h3, by rw [e1]; simp only [hmem _ n1], by rw [e2]; simp only [hmem _ n2], by rw [e3]; simp only [hmem _ n3], ?_⟩⟩
    · exact (Below.heap_setCell W ⟨g, j, none⟩ _ Bo (fun e => hgB e.symm)).trans h1
    · rw [List.length_set]; exact hput
    · intro g' hg' i
      have e : g = g' := by injection hg' with h; injection h
      subst e
      rw [List.getElem?_set]
      by_cases hi : j = i
      · subst hi
        rw [if_pos rfl, if_pos hjl, hlv]
        simp
      · rw [if_neg hi]; exact hrest i (fun e => hi e.symm)
    · intro g' hg' i
      have e : g = g' := by injection hg' with h; injection h
      subst e
      by_cases hi : i = j
      · subst hi
        rw [hv, hlv]
        simp [hn]
      · exact hrest i hi
end
section
variable {base N0 D Bo : Nat} {K a b c n : Int} {s : ByteArray} {A : Option Addr} {cp : Nat} {l : List Int} {st : Bool} {tl : List Int} {W : World}
open Classical in
theorem ReO.done (h : ReO base N0 D Bo K a b c n s A cp l st tl (opsAll K Bo A l.length) W) (hBo : Bo < base) :
    W.heap[Bo]? = some (.cells #[.int .i64 K, .int .i64 (if hasF K 65 = true then nm tl a else a), .int .i64 (if hasF K 66 = true then nm tl b else b), .int .i64 (if hasF K 67 = true then nm tl c else c), .int .i64 n, .string s, .slice A (l.map (nm tl)).length cp, .bool st] 33 (0, 0)) ∧
      Kd.R (Kd.int .i64) 3 W base (fun k => base ≤ k ∧ k < N0 ∧ k ≠ D ∧ k ≠ D + 1) (.slice A (l.map (nm tl)).length cp) (l.map (nm tl)) := by
  have hsl := h.slice
  obtain ⟨v1, v2, v3, l', h1, h2, h3, e1, e2, e3, e4⟩ := h
  have hno : ∀ x : Addr, x.block = Bo → x ∉ ops2 A l.length := fun x hx hm => by
    by_cases hl : 0 < l.length
    · obtain ⟨g, rfl, hg, _⟩ := hsl hl
      obtain ⟨j, _, rfl⟩ := ops2_mem hm
      have : g = Bo := hx
      omega
    · have h0 : l.length = 0 := by omega
      rw [h0] at hm
      unfold ops2 at hm
      cases A <;> simp at hm
  have m1 : ((⟨Bo, 1, none⟩ : Addr) ∈ opsAll K Bo A l.length) ↔ hasF K 65 = true := by
    unfold opsAll
    rw [List.mem_append]
    refine ⟨fun hm => ?_, fun hm => .inl (by simp [ops1, hm])⟩
    rcases hm with hm | hm
    · rcases ops1_block hm with h | h | h
      · exact h.2
      · exact absurd h.1 (by simp)
      · exact absurd h.1 (by simp)
    · exact absurd hm (hno _ rfl)
  have m2 : ((⟨Bo, 2, none⟩ : Addr) ∈ opsAll K Bo A l.length) ↔ hasF K 66 = true := by
    unfold opsAll
    rw [List.mem_append]
    refine ⟨fun hm => ?_, fun hm => .inl (by simp [ops1, hm])⟩
    rcases hm with hm | hm
    · rcases ops1_block hm with h | h | h
      · exact absurd h.1 (by simp)
      · exact h.2
      · exact absurd h.1 (by simp)
    · exact absurd hm (hno _ rfl)
  have m3 : ((⟨Bo, 3, none⟩ : Addr) ∈ opsAll K Bo A l.length) ↔ hasF K 67 = true := by
    unfold opsAll
    rw [List.mem_append]
    refine ⟨fun hm => ?_, fun hm => .inl (by simp [ops1, hm])⟩
    rcases hm with hm | hm
    · rcases ops1_block hm with h | h | h
      · exact absurd h.1 (by simp)
      · exact absurd h.1 (by simp)
      · exact h.2
    · exact absurd hm (hno _ rfl)
  simp only [m1] at e1
  simp only [m2] at e2
  simp only [m3] at e3
  have hl' : l' = l.map (nm tl) := by
    by_cases hl : 0 < l.length
    · obtain ⟨g, rfl, hg, _⟩ := hsl hl
      refine List.ext_getElem? (fun j => ?_)
      rw [e4 g rfl j, List.getElem?_map]
      cases hj : l[j]? with
      | none => rfl
      | some v =>
        have hlt := (List.getElem?_eq_some_iff.1 hj).1
        have hm : (⟨g, j, none⟩ : Addr) ∈ opsAll K Bo (some ⟨g, 0, none⟩) l.length := by
          unfold opsAll
          refine List.mem_append_right _ ?_
          simp only [ops2, List.mem_map, List.mem_range]
          exact ⟨j, hlt, add0 g j⟩
        simp only [Option.map_some, if_pos hm]
    · have h0 : l.length = 0 := by omega
      have h4 : l' = [] := List.length_eq_zero_iff.1 (by omega)
      have h5 : l = [] := List.length_eq_zero_iff.1 h0
      rw [h4, h5]; rfl
  subst hl' e1 e2 e3
  refine ⟨?_, h2⟩
  rw [List.length_map]
  exact h1
end
theorem cut_ {P Q : Prop} (h : P → Q) (p : P) : Q := h p
def kind_Renamed.f (a0_0 a0_1 a0_2 a0_3 a0_4 : Int) (a0_5 : ByteArray) (l0_6 : List Int) (a0_7 : Bool) (l1 : List Int) : Option (Int × Int × Int × Int × Int × ByteArray × List Int × Bool) :=
  if l0_6.length < 17592186044000 ∧ l1.length ≤ 9223372036854775807 then some (a0_0, (if hasF a0_0 65 then nm l1 a0_1 else 0), (if hasF a0_0 66 then nm l1 a0_2 else 0), (if hasF a0_0 67 then nm l1 a0_3 else 0), (if hasF a0_0 78 then a0_4 else 0), (if hasF a0_0 83 then a0_5 else ByteArray.empty), (if hasF a0_0 76 then l0_6.map (nm l1) else []), (if hasF a0_0 75 then a0_7 else false)) else none
set_option maxHeartbeats 4000000 in
set_option maxRecDepth 100000 in
theorem kind_Renamed.calls (a0_0 : Int) (a0_1 : Int) (a0_2 : Int) (a0_3 : Int) (a0_4 : Int) (a0_5 : ByteArray) (A0_6 : Option Addr) (c0_6 : Nat) (l0_6 : List Int) (a0_7 : Bool) (A1 : Option Addr) (c1 : Nat) (l1 : List Int) (r1 : Int) (r2 : Int) (r3 : Int) (r4 : Int) (r5 : Int) (r6 : ByteArray) (r7 : List Int) (r8 : Bool) (w : World) (hr0_6 : Kd.C (Kd.int .i64) w A0_6 l0_6.length l0_6) (hc0_6 : l0_6.length ≤ c0_6) (hr1 : Kd.C (Kd.int .i64) w A1 l1.length l1) (hc1 : l1.length ≤ c1) (h : kind_Renamed.f a0_0 a0_1 a0_2 a0_3 a0_4 a0_5 l0_6 a0_7 l1 = some (r1, r2, r3, r4, r5, r6, r7, r8)) (hG : Door.Laid w) :
    Calls Tryd.prog 22 #[.agg #[.int .i64 a0_0, .int .i64 a0_1, .int .i64 a0_2, .int .i64 a0_3, .int .i64 a0_4, .string a0_5, .slice A0_6 l0_6.length c0_6, .bool a0_7], .slice A1 l1.length c1] w fun e w' => ∃ v6_ : Value, e = .returned (.agg #[.int .i64 r1, .int .i64 r2, .int .i64 r3, .int .i64 r4, .int .i64 r5, .string r6, v6_, .bool r8]) ∧ Kd.R (Kd.int .i64) 3 w' w.heap.size (fun _ => True) v6_ r7 ∧ Below w.heap.size w w' := by
  unfold kind_Renamed.f at h
  split at h
  rotate_left
  · cases h
  rename_i hll
  have hr := Option.some.inj h
  have HRR := Aside0.mk hr
  have HLL := Aside0.mk hll
  have HR := Aside0.mk hr0_6
  have HC := Aside0.mk hc0_6
  have HT1 := Aside0.mk hr1
  have HCT := Aside0.mk hc1
  have HG := Aside0.mk hG
  have hpl : kind_plain.f a0_0 a0_1 a0_2 a0_3 a0_4 a0_5 l0_6 a0_7 = some (a0_0, (if hasF a0_0 65 then a0_1 else 0), (if hasF a0_0 66 then a0_2 else 0), (if hasF a0_0 67 then a0_3 else 0), (if hasF a0_0 78 then a0_4 else 0), (if hasF a0_0 83 then a0_5 else ByteArray.empty), (if hasF a0_0 76 then l0_6 else []), (if hasF a0_0 75 then a0_7 else false)) := by
    unfold kind_plain.f; rw [if_pos (by omega)]
  obtain ⟨p1, hp1⟩ : ∃ p, (if hasF a0_0 65 = true then a0_1 else 0) = p := ⟨_, rfl⟩
  obtain ⟨p2, hp2⟩ : ∃ p, (if hasF a0_0 66 = true then a0_2 else 0) = p := ⟨_, rfl⟩
  obtain ⟨p3, hp3⟩ : ∃ p, (if hasF a0_0 67 = true then a0_3 else 0) = p := ⟨_, rfl⟩
  obtain ⟨p4, hp4⟩ : ∃ p, (if hasF a0_0 78 = true then a0_4 else 0) = p := ⟨_, rfl⟩
  obtain ⟨p5, hp5⟩ : ∃ p, (if hasF a0_0 83 = true then a0_5 else ByteArray.empty) = p := ⟨_, rfl⟩
  obtain ⟨p6, hp6⟩ : ∃ p, (if hasF a0_0 76 = true then l0_6 else []) = p := ⟨_, rfl⟩
  obtain ⟨p7, hp7⟩ : ∃ p, (if hasF a0_0 75 = true then a0_7 else false) = p := ⟨_, rfl⟩
  have hl6 : p6.length ≤ l0_6.length := by rw [← hp6]; split <;> simp
  rw [hp1, hp2, hp3, hp4, hp5, hp6, hp7] at hpl
  rw [hp4, hp5, hp7] at HRR
  have h1e : (if hasF a0_0 65 = true then nm l1 a0_1 else 0) = (if hasF a0_0 65 = true then nm l1 p1 else p1) := by rw [← hp1]; cases hasF a0_0 65 <;> rfl
  have h2e : (if hasF a0_0 66 = true then nm l1 a0_2 else 0) = (if hasF a0_0 66 = true then nm l1 p2 else p2) := by rw [← hp2]; cases hasF a0_0 66 <;> rfl
  have h3e : (if hasF a0_0 67 = true then nm l1 a0_3 else 0) = (if hasF a0_0 67 = true then nm l1 p3 else p3) := by rw [← hp3]; cases hasF a0_0 67 <;> rfl
  have h6e : (if hasF a0_0 76 = true then l0_6.map (nm l1) else []) = p6.map (nm l1) := by rw [← hp6]; cases hasF a0_0 76 <;> rfl
  rw [h1e, h2e, h3e, h6e] at HRR
  have HPL := Aside0.mk hpl
  have HL6 := Aside0.mk hl6
  clear h hll hr0_6 hc0_6 hr1 hc1 hG hr hpl hl6 hp1 hp2 hp3 hp4 hp5 hp6 hp7 h1e h2e h3e h6e
  refine (callsIn_wide (n := 6)).1 ?_
  refine callsIn_of_wp_marks Tryd.func22 rfl trivial ?_ rfl
  simp only [Tryd.ntmps22, List.size_toArray, List.length_cons, List.length_nil, Nat.reduceAdd, Nat.reduceSub, Array.replicate_succ, Array.replicate_zero, List.push_toArray, List.append_toArray, List.nil_append, List.cons_append]
  gi_wp2_with (first
    | (refine ⟨trivial, ?_⟩; gi_at_call 27; refine Aside0.out ?_))
  refine ⟨?_⟩
  obtain ⟨Wa, hWa⟩ : ∃ Wa, ((w.alloc (.cells #[.int .i64 a0_0, .int .i64 a0_1, .int .i64 a0_2, .int .i64 a0_3, .int .i64 a0_4, .string a0_5, .slice A0_6 l0_6.length c0_6, .bool a0_7] 33)).alloc (.cells #[.slice A1 l1.length c1] 31)).alloc (.cells #[.int .i64 0, .int .i64 0, .int .i64 0, .int .i64 0, .int .i64 0, .string (⟨#[]⟩ : ByteArray), .slice none 0 0, .bool false] 33) = Wa := ⟨_, rfl⟩
  have hBa : Below w.heap.size w Wa := by rw [← hWa]; exact below_alloc (below_alloc (below_alloc (Below.refl _ _) _) _) _
  have hsa : Wa.heap.size = w.heap.size + 3 := by rw [← hWa]; simp
  obtain ⟨hoa, hta, hra⟩ := three_allocs w (.cells #[.int .i64 a0_0, .int .i64 a0_1, .int .i64 a0_2, .int .i64 a0_3, .int .i64 a0_4, .string a0_5, .slice A0_6 l0_6.length c0_6, .bool a0_7] 33) (.cells #[.slice A1 l1.length c1] 31) (.cells #[.int .i64 0, .int .i64 0, .int .i64 0, .int .i64 0, .int .i64 0, .string (⟨#[]⟩ : ByteArray), .slice none 0 0, .bool false] 33)
  rw [hWa] at hoa hta hra
  rw [hWa]
  refine (callsIn_wide.2 (kind_plain.calls _ _ _ _ _ _ A0_6 c0_6 l0_6 _ _ _ _ _ _ _ _ _ Wa (Kd.C_below HR.out hBa) HC.out HPL.out (HG.out.on hBa))).mono ?_
  rintro e w1 ⟨v6, rfl, hR, hB⟩
  obtain ⟨A3, c3, rfl⟩ := Kd.R_slice hR
  have hs1 : w.heap.size + 3 ≤ w1.heap.size := by have := hB.size; omega
  have ho1 := (hB.block w.heap.size (by omega)).trans hoa
  have ht1 := (hB.block (w.heap.size + 1) (by omega)).trans hta
  have hq1 := (hB.block (w.heap.size + 2) (by omega)).trans hra
  have z1 := blk_frozen ho1
  have y1 := blk_cell ho1
  have HR1 := Aside0.mk hR
  have HB1 := Aside0.mk (hBa.trans (hB.mono (by omega)))
  have HO1 := Aside0.mk ho1
  have HTO1 := Aside0.mk ht1
  have HQ1 := Aside0.mk hq1
  have HS1 := Aside0.mk hs1
  have HSA := Aside0.mk hsa
  clear hR hB hoa hta hra ho1 ht1 hq1 hsa hBa hs1 hWa
  gi_wp2_with (first
    | (refine ⟨trivial, ?_⟩; gi_at_call 31; refine Aside0.out ?_))
  refine ⟨?_⟩
  have hne : ∀ (V : World) (i j : Nat) (u : Value), j ≠ w.heap.size → (V.setCell ⟨w.heap.size, i, none⟩ u).heap[j]? = V.heap[j]? := fun V i j u hj => Below.heap_setCell V ⟨w.heap.size, i, none⟩ u j hj
  have hBs : ∀ (V : World) (i : Nat) (u : Value), Below w.heap.size w V → Below w.heap.size w (V.setCell ⟨w.heap.size, i, none⟩ u) := fun V i u h => h.setCell (p := ⟨w.heap.size, i, none⟩) (Nat.le_refl _) _
  obtain ⟨W2, hW2⟩ : ∃ W2, (((((((w1.setCell ⟨w.heap.size, 0, none⟩ (.int .i64 a0_0)).setCell ⟨w.heap.size, 1, none⟩ (.int .i64 p1)).setCell ⟨w.heap.size, 2, none⟩ (.int .i64 p2)).setCell ⟨w.heap.size, 3, none⟩ (.int .i64 p3)).setCell ⟨w.heap.size, 4, none⟩ (.int .i64 p4)).setCell ⟨w.heap.size, 5, none⟩ (.string p5)).setCell ⟨w.heap.size, 6, none⟩ (.slice A3 p6.length c3)).setCell ⟨w.heap.size, 7, none⟩ (.bool p7) = W2 := ⟨_, rfl⟩
  have hs2 : W2.heap.size = w1.heap.size := by rw [← hW2]; simp [World.setCell]
  have ho2 : W2.heap[w.heap.size]? = some (.cells #[.int .i64 a0_0, .int .i64 p1, .int .i64 p2, .int .i64 p3, .int .i64 p4, .string p5, .slice A3 p6.length c3, .bool p7] 33 (0, 0)) := by
    have h1 := blk_set (blk_set (blk_set (blk_set (blk_set (blk_set (blk_set (blk_set HO1.out 0 (.int .i64 a0_0)) 1 (.int .i64 p1)) 2 (.int .i64 p2)) 3 (.int .i64 p3)) 4 (.int .i64 p4)) 5 (.string p5)) 6 (.slice A3 p6.length c3)) 7 (.bool p7)
    rw [hW2] at h1
    rw [h1]; simp
  have hk2 : ∀ k, k ≠ w.heap.size → W2.heap[k]? = w1.heap[k]? := fun k hk => by
    rw [← hW2]
    simp only [hne _ _ _ _ hk]
  have hB2 : Below w.heap.size w W2 := by
    rw [← hW2]
    exact hBs _ _ _ (hBs _ _ _ (hBs _ _ _ (hBs _ _ _ (hBs _ _ _ (hBs _ _ _ (hBs _ _ _ (hBs _ _ _ HB1.out)))))))
  have hR2 : Kd.R (Kd.int .i64) 3 W2 (w.heap.size + 3) (fun k => w.heap.size + 3 ≤ k ∧ k < w1.heap.size) (.slice A3 p6.length c3) p6 := by
    have hsa := HSA.out
    have := Kd.R_bound HR1.out
    rw [hsa] at this
    refine Kd.R_mono (Kd.R_move this (fun k hk => ?_)) (fun k hk => ⟨hk.2.1, hk.2.2.1⟩)
    exact hk2 k (by have := hk.2.1; omega)
  have ht2 := (hk2 (w.heap.size + 1) (by omega)).trans HTO1.out
  have hq2 := (hk2 (w.heap.size + 2) (by omega)).trans HQ1.out
  rw [hW2]
  clear hW2 hne hBs hk2
  refine (operands_in Fence.wide 5 trivial rfl w.heap.size _).mono ?_
  rintro e W4 ⟨rfl, hW4⟩
  have hs4 : W4.heap.size = w1.heap.size + 1 := by rw [hW4]; simp [hs2]
  have hP : W4.heap[w1.heap.size]? = some (.cells #[.pointer (some ⟨w.heap.size, 0, none⟩)] 51 (0, 0)) := by
    have := heap_alloc_new W2 (.cells #[.pointer (some ⟨w.heap.size, 0, none⟩)] 51)
    rw [hs2] at this
    rw [hW4]; exact this
  have hold : ∀ k, k < w1.heap.size → W4.heap[k]? = W2.heap[k]? := fun k hk => by
    rw [hW4, heap_alloc_old _ _ (by omega)]
  have hS1 := HS1.out
  obtain ⟨N0, hN0⟩ : ∃ N0, W4.heap.size = N0 := ⟨_, rfl⟩
  have hNw : w1.heap.size + 1 = N0 := by omega
  have hU4 : ReO (w.heap.size + 3) w1.heap.size N0 w.heap.size a0_0 p1 p2 p3 p4 p5 A3 c3 p6 p7 l1 [] W4 :=
    ⟨p1, p2, p3, p6, (hold _ (by omega)).trans ho2, Kd.R_mono (Kd.R_move hR2 (fun k hk => hold k hk.2)) (fun k hk => ⟨hk.1, by omega, by omega, by omega⟩), rfl, by simp, by simp, by simp, fun g hg j => by simp⟩
  have ht4 := (hold (w.heap.size + 1) (by omega)).trans ht2
  have hq4 := (hold (w.heap.size + 2) (by omega)).trans hq2
  have hB4 : Below w.heap.size w W4 := by rw [hW4]; exact below_alloc hB2 _
  have ho4 := (hold w.heap.size (by omega)).trans ho2
  have hRl : Kd.C (Kd.int .i64) W4 A3 p6.length p6 ∧ p6.length ≤ c3 := by
    have := Kd.R_reads' (Kd.R_move hR2 (fun k hk => hold k hk.2))
    exact ⟨this.2.2, this.2.1⟩
  rw [hs2]
  clear hW4 hold ho2 hB2 hR2 hs2 ht2 hq2
  have hLd4 := HG.out.on hB4
  have hRd4 : RdO w1.heap.size w.heap.size a0_0 A3 p6.length c3 W4 := ⟨blk_cell hP 0, blk_cell ho4 0, blk_cell ho4 6, hLd4⟩
  have HU4 := Aside0.mk hU4
  have HB4 := Aside0.mk hB4
  have HTO4 := Aside0.mk ht4
  have HQ4 := Aside0.mk hq4
  have HP4 := Aside0.mk hP
  have HRD4 := Aside0.mk hRd4
  have HRL := Aside0.mk hRl
  have HN0 := Aside0.mk hN0
  have HNW := Aside0.mk hNw
  clear hU4 hB4 hP hRd4 hRl hLd4 hN0 hNw hs4 y1 z1 ht4 hq4 ho4 hS1
  go_simp
  gi_wp2
  refine wpIn_rangeW (F := Fence.wide) (n := 6) (α := Addr) rfl (by decide) (gf := 37) (lb := #[.pointer (some ⟨w1.heap.size, 0, none⟩)]) rfl trivial (enters_of Tryd.func37 (by kernel_rfl) rfl)
    (operands1_gives 5 (by decide) w1.heap.size w.heap.size a0_0 A3 p6.length c3 HRL.out.2 (by have := HL6.out; have := HLL.out; omega) (fun hp => by obtain ⟨ad, e, _⟩ := HRL.out.1.2.2 hp; exact ⟨ad, e⟩) W4) (Below.refl _ _) (fun _ => rfl)
    (fun pre T W => (∀ k, k < N0 → T k) ∧ N0 ≤ W.heap.size ∧ Below w.heap.size w W ∧ ReO (w.heap.size + 3) w1.heap.size N0 w.heap.size a0_0 p1 p2 p3 p4 p5 A3 c3 p6 p7 l1 pre W ∧ W.heap[w1.heap.size]? = some (.cells #[.pointer (some ⟨w.heap.size, 0, none⟩)] 51 (0, 0)) ∧
      W.heap[w.heap.size + 1]? = some (.cells #[.slice A1 l1.length c1] 31 (0, 0)) ∧ W.heap[w.heap.size + 2]? = some (.cells #[.int .i64 0, .int .i64 0, .int .i64 0, .int .i64 0, .int .i64 0, .string (⟨#[]⟩ : ByteArray), .slice none 0 0, .bool false] 33 (0, 0)))
    ?stable ?rd (fun k => k < N0) ?start ?own ?round ?done
  case stable =>
    rintro s T A B ⟨hT, hN, hb, hu, hp, ht, hq⟩ hh
    have hNT : ∀ k, k < N0 → B.heap[k]? = A.heap[k]? := fun k hk => hh.block k (hT k hk)
    have := HNW.out
    have := HS1.out
    exact ⟨hT, Nat.le_trans hN hh.size, ⟨hh.os.trans hb.os, hh.tape.trans hb.tape, hh.output.trans hb.output, Nat.le_trans hb.size hh.size, fun k hk => (hNT k (by omega)).trans (hb.block k hk)⟩,
      hu.move (by omega) (by omega) (fun k hk _ _ => hNT k (by omega)) ⟨by omega, by omega⟩, (hNT _ (by omega)).trans hp, (hNT _ (by omega)).trans ht, (hNT _ (by omega)).trans hq⟩
  case rd =>
    rintro s T X ⟨hT, hN, hb, hu, hp, _⟩
    obtain ⟨v1, v2, v3, l', h1, _⟩ := hu
    exact ⟨blk_cell hp 0, blk_cell h1 0, blk_cell h1 6, HG.out.on hb⟩
  case start => exact ⟨fun k hk => hk, by rw [HN0.out]; exact Nat.le_refl _, HB4.out, HU4.out, HP4.out, HTO4.out, HQ4.out⟩
  case own => intro k hk; rw [HN0.out]; exact hk
  case round =>
    rintro pre x T W ⟨hT, hN, hb, hu, hp, ht, hq⟩ hpre hsz hTs hkp
    have HTS := Aside0.mk hTs
    have HSZ := Aside0.mk hsz
    have HT := Aside0.mk hT
    have HNN := Aside0.mk hN
    have HBB := Aside0.mk hb
    have HUU := Aside0.mk hu
    have HPP := Aside0.mk hp
    have HTO := Aside0.mk ht
    have HQQ := Aside0.mk hq
    have HPRE := Aside0.mk hpre
    clear hTs hkp hsz hT hN hb hu hp ht hq hpre
    gi_wp2
    refine ⟨Hold.refl _ _, fun X hsX hhX => ?_⟩
    have hN0 := HN0.out
    have hNW := HNW.out
    have hS1 := HS1.out
    have hNN := HNN.out
    have hsz := HSZ.out
    have hkX : ∀ k, k < N0 → X.heap[k]? = W.heap[k]? := fun k hk => hhX.block k (by omega)
    have huX := HUU.out.move (W' := X) (by omega) (by omega) (fun k hk _ _ => hkX k (by omega)) ⟨by omega, by omega⟩
    obtain ⟨v, hxc, hxf, hxb, _, _⟩ := huX.at_ (by omega) HPRE.out
    have hxlt : x.block < N0 := by rcases hxb with h | h <;> omega
    have htX := (hkX (w.heap.size + 1) (by omega)).trans HTO.out
    have hqc := blk_cell htX 0
    have hlim : l1.length ≤ 9223372036854775807 := HLL.out.2
    have hcl : Kd.C (Kd.int .i64) X A1 l1.length l1 := Kd.C_below HT1.out ⟨hhX.os.trans HBB.out.os, hhX.tape.trans HBB.out.tape, hhX.output.trans HBB.out.output, by have := HBB.out.size; omega, fun k hk => (hkX k (by omega)).trans (HBB.out.block k hk)⟩
    have HCL := Aside0.mk hcl
    have HALL : Aside0 (∀ X' : World, X'.heap = X.heap → X'.os = X.os → X'.tape = X.tape → X'.output = X.output →
        (∀ Y : World, Y.heap.size = X'.heap.size → (∀ k, k ≠ x.block → Y.heap[k]? = X'.heap[k]?) → Y.os = X'.os → Y.tape = X'.tape → Y.output = X'.output → ReO (w.heap.size + 3) w1.heap.size N0 w.heap.size a0_0 p1 p2 p3 p4 p5 A3 c3 p6 p7 l1 (pre ++ [x]) Y →
          ∃ T' : Nat → Prop, (∀ k, T' k → (T k ∨ W.heap.size ≤ k) ∧ k < Y.heap.size) ∧ Hold (fun k => k < W.heap.size ∧ ¬ T k) X Y ∧ ((∀ k, k < N0 → T' k) ∧ N0 ≤ Y.heap.size ∧ Below w.heap.size w Y ∧ ReO (w.heap.size + 3) w1.heap.size N0 w.heap.size a0_0 p1 p2 p3 p4 p5 A3 c3 p6 p7 l1 (pre ++ [x]) Y ∧ Y.heap[w1.heap.size]? = some (.cells #[.pointer (some ⟨w.heap.size, 0, none⟩)] 51 (0, 0)) ∧
      Y.heap[w.heap.size + 1]? = some (.cells #[.slice A1 l1.length c1] 31 (0, 0)) ∧ Y.heap[w.heap.size + 2]? = some (.cells #[.int .i64 0, .int .i64 0, .int .i64 0, .int .i64 0, .int .i64 0, .string (⟨#[]⟩ : ByteArray), .slice none 0 0, .bool false] 33 (0, 0))))) := ⟨fun X' e1 e2 e3 e4 Y f1 f2 f3 f4 f5 hY => by
      have hkY : ∀ k, k < N0 → k ≠ x.block → Y.heap[k]? = W.heap[k]? := fun k hk hx => by rw [f2 k hx, e1]; exact hkX k hk
      have hb := HBB.out
      have hxge : w.heap.size ≤ x.block := by rcases hxb with h | h <;> omega
      have hxw1 : x.block ≠ w1.heap.size ∧ x.block ≠ w.heap.size + 1 ∧ x.block ≠ w.heap.size + 2 := by
        exact ⟨by rcases hxb with h | h <;> omega, by rcases hxb with h | h <;> omega, by rcases hxb with h | h <;> omega⟩
      refine ⟨fun k => (T k ∨ W.heap.size ≤ k) ∧ k < Y.heap.size, fun k hk => hk, ⟨f3.trans e2, f4.trans e3, f5.trans e4, by rw [f1, e1]; exact Nat.le_refl _, fun k hk => ?_⟩, fun k hk => ⟨.inl (HT.out k hk), by rw [f1, e1]; omega⟩, by rw [f1, e1]; omega, ⟨f3.trans (e2.trans (hhX.os.trans hb.os)), f4.trans (e3.trans (hhX.tape.trans hb.tape)), f5.trans (e4.trans (hhX.output.trans hb.output)), by rw [f1, e1]; have := hb.size; omega, fun k hk => (hkY k (by omega) (by omega)).trans (hb.block k hk)⟩, hY, (hkY _ (by omega) (fun e => hxw1.1 e.symm)).trans HPP.out, (hkY _ (by omega) (fun e => hxw1.2.1 e.symm)).trans HTO.out, (hkY _ (by omega) (fun e => hxw1.2.2 e.symm)).trans HQQ.out⟩
      rw [f2 k (fun e => hk.2 (HT.out _ (by omega))), e1]⟩
    have HNO : Aside0 (nm l1 v = v → ∀ X' : World, X'.heap = X.heap → X'.os = X.os → X'.tape = X.tape → X'.output = X.output → roundEnd (fun pre T W => (∀ k, k < N0 → T k) ∧ N0 ≤ W.heap.size ∧ Below w.heap.size w W ∧ ReO (w.heap.size + 3) w1.heap.size N0 w.heap.size a0_0 p1 p2 p3 p4 p5 A3 c3 p6 p7 l1 pre W ∧ W.heap[w1.heap.size]? = some (.cells #[.pointer (some ⟨w.heap.size, 0, none⟩)] 51 (0, 0)) ∧
      W.heap[w.heap.size + 1]? = some (.cells #[.slice A1 l1.length c1] 31 (0, 0)) ∧ W.heap[w.heap.size + 2]? = some (.cells #[.int .i64 0, .int .i64 0, .int .i64 0, .int .i64 0, .int .i64 0, .string (⟨#[]⟩ : ByteArray), .slice none 0 0, .bool false] 33 (0, 0))) (pre ++ [x]) T W X .normal { tmps := #[], defers := [] } X') := ⟨fun hn X' e1 e2 e3 e4 => by
      obtain ⟨v', hxc', _, _, _, hsame⟩ := (HUU.out.move (W' := X') (by omega) (by omega) (fun k hk _ _ => by rw [e1]; exact hkX k (by omega)) ⟨by omega, by omega⟩).at_ (by omega) HPRE.out
      have ev : v' = v := by
        have := (World.cell?_of_block (w := X) (w' := X') (a := x) (by rw [e1]))
        rw [hxc', hxc] at this
        injection this with this; injection this with _ this
      subst ev
      exact HALL.out X' e1 e2 e3 e4 X' rfl (fun _ _ => rfl) rfl rfl rfl (hsame hn)⟩
    have HSET : Aside0 (∀ X' : World, X'.heap = X.heap → X'.os = X.os → X'.tape = X.tape → X'.output = X.output → roundEnd (fun pre T W => (∀ k, k < N0 → T k) ∧ N0 ≤ W.heap.size ∧ Below w.heap.size w W ∧ ReO (w.heap.size + 3) w1.heap.size N0 w.heap.size a0_0 p1 p2 p3 p4 p5 A3 c3 p6 p7 l1 pre W ∧ W.heap[w1.heap.size]? = some (.cells #[.pointer (some ⟨w.heap.size, 0, none⟩)] 51 (0, 0)) ∧
      W.heap[w.heap.size + 1]? = some (.cells #[.slice A1 l1.length c1] 31 (0, 0)) ∧ W.heap[w.heap.size + 2]? = some (.cells #[.int .i64 0, .int .i64 0, .int .i64 0, .int .i64 0, .int .i64 0, .string (⟨#[]⟩ : ByteArray), .slice none 0 0, .bool false] 33 (0, 0))) (pre ++ [x]) T W X .normal { tmps := #[], defers := [] } (X'.setCell x (.int .i64 (nm l1 v)))) := ⟨fun X' e1 e2 e3 e4 => by
      obtain ⟨v', hxc', _, _, hset, _⟩ := (HUU.out.move (W' := X') (by omega) (by omega) (fun k hk _ _ => by rw [e1]; exact hkX k (by omega)) ⟨by omega, by omega⟩).at_ (by omega) HPRE.out
      have ev : v' = v := by
        have := (World.cell?_of_block (w := X) (w' := X') (a := x) (by rw [e1]))
        rw [hxc', hxc] at this
        injection this with this; injection this with _ this
      subst ev
      exact HALL.out X' e1 e2 e3 e4 _ (by simp [World.setCell]) (fun k hk => Below.heap_setCell X' x _ k hk) rfl rfl rfl hset⟩
    clear HALL hN0 hNW hS1 hNN hsz hkX huX hxb htX hcl hsX hhX hxlt
    by_cases hv0 : 0 ≤ v
    · by_cases hv1 : v < (l1.length : Int)
      · have hn : nm l1 v = rd l1 v := if_pos ⟨hv0, hv1⟩
        obtain ⟨ad, rfl, hcell⟩ := Kd.at_int HCL.out v hv0 hv1
        have hg0 : v ≥ 0 := hv0
        have HSET' := HSET
        rw [hn] at HSET'
        have HNN2 := Aside0.mk hn
        clear hn HNO HSET
        gi_wp2
        apply cut_
        · intro key
          refine wpIn_region_any (by kernel_rfl) ?_
          change wpAnyIn _ _ _ _ _ _ _ _ _ (World.drew _)
          refine wpAnyIn_ready (rs := [0]) (by kernel_rfl) (by simp) ?_
          refine AllReadyIn.cons rfl (fun K hK => ?_) ?_
          · skip
            go_simp
            refine hK _ _ ?_; clear hK K
            refine wpAnyIn_ready (rs := [1]) (by kernel_rfl) (by simp) ?_
            refine AllReadyIn.cons rfl (fun K hK => ?_) ?_
            · skip
              go_simp
              refine hK _ _ ?_; clear hK K
              refine wpAnyIn_ready (rs := [2]) (by kernel_rfl) (by simp) ?_
              refine AllReadyIn.cons rfl (fun K hK => ?_) ?_
              · skip
                go_simp
                refine hK _ _ ?_; clear hK K
                refine wpAnyIn_ready (rs := [3]) (by kernel_rfl) (by simp) ?_
                refine AllReadyIn.cons rfl (fun K hK => ?_) ?_
                · skip
                  go_simp
                  refine hK _ _ ?_; clear hK K
                  refine wpAnyIn_ready (rs := [4]) (by kernel_rfl) (by simp) ?_
                  refine AllReadyIn.cons rfl (fun K hK => ?_) ?_
                  · skip
                    go_simp
                    refine hK _ _ ?_; clear hK K
                    refine wpAnyIn_ready (rs := [5, 8]) (by kernel_rfl) (by simp) ?_
                    refine AllReadyIn.cons rfl (fun K hK => ?_) ?_
                    · skip
                      go_simp
                      refine hK _ _ ?_; clear hK K
                      refine wpAnyIn_ready (rs := [6, 8]) (by kernel_rfl) (by simp) ?_
                      refine AllReadyIn.cons rfl (fun K hK => ?_) ?_
                      · skip
                        go_simp
                        refine hK _ _ ?_; clear hK K
                        refine wpAnyIn_ready (rs := [7, 8]) (by kernel_rfl) (by simp) ?_
                        refine AllReadyIn.cons rfl (fun K hK => ?_) ?_
                        · skip
                          go_simp
                          refine hK _ _ ?_; clear hK K
                          refine wpAnyIn_ready (rs := [8]) (by kernel_rfl) (by simp) ?_
                          refine AllReadyIn.cons rfl (fun K hK => ?_) ?_
                          · skip
                            go_simp
                            refine hK _ _ ?_; clear hK K
                            refine wpAnyIn_ready (rs := [9]) (by kernel_rfl) (by simp) ?_
                            refine AllReadyIn.cons rfl (fun K hK => ?_) ?_
                            · skip
                              go_simp
                              refine hK _ _ ?_; clear hK K
                              refine wpAnyIn_ready (rs := [10]) (by kernel_rfl) (by simp) ?_
                              refine AllReadyIn.cons rfl (fun K hK => ?_) ?_
                              · skip
                                go_simp
                                refine hK _ _ ?_; clear hK K
                                refine wpAnyIn_ready (rs := [11]) (by kernel_rfl) (by simp) ?_
                                refine AllReadyIn.cons rfl (fun K hK => ?_) ?_
                                · skip
                                  go_simp
                                  refine hK _ _ ?_; clear hK K
                                  refine wpAnyIn_done (by kernel_rfl) ?_ _
                                  exact key
                                exact AllReadyIn.nil
                              exact AllReadyIn.nil
                            exact AllReadyIn.nil
                          exact AllReadyIn.nil
                        refine AllReadyIn.cons rfl (fun K hK => ?_) ?_
                        · skip
                          go_simp
                          refine hK _ _ ?_; clear hK K
                          refine wpAnyIn_ready (rs := [7, 9]) (by kernel_rfl) (by simp) ?_
                          refine AllReadyIn.cons rfl (fun K hK => ?_) ?_
                          · skip
                            go_simp
                            refine hK _ _ ?_; clear hK K
                            refine wpAnyIn_ready (rs := [9]) (by kernel_rfl) (by simp) ?_
                            refine AllReadyIn.cons rfl (fun K hK => ?_) ?_
                            · skip
                              go_simp
                              refine hK _ _ ?_; clear hK K
                              refine wpAnyIn_ready (rs := [10]) (by kernel_rfl) (by simp) ?_
                              refine AllReadyIn.cons rfl (fun K hK => ?_) ?_
                              · skip
                                go_simp
                                refine hK _ _ ?_; clear hK K
                                refine wpAnyIn_ready (rs := [11]) (by kernel_rfl) (by simp) ?_
                                refine AllReadyIn.cons rfl (fun K hK => ?_) ?_
                                · skip
                                  go_simp
                                  refine hK _ _ ?_; clear hK K
                                  refine wpAnyIn_done (by kernel_rfl) ?_ _
                                  exact key
                                exact AllReadyIn.nil
                              exact AllReadyIn.nil
                            exact AllReadyIn.nil
                          refine AllReadyIn.cons rfl (fun K hK => ?_) ?_
                          · skip
                            go_simp
                            refine hK _ _ ?_; clear hK K
                            refine wpAnyIn_ready (rs := [7]) (by kernel_rfl) (by simp) ?_
                            refine AllReadyIn.cons rfl (fun K hK => ?_) ?_
                            · skip
                              go_simp
                              refine hK _ _ ?_; clear hK K
                              refine wpAnyIn_ready (rs := [10]) (by kernel_rfl) (by simp) ?_
                              refine AllReadyIn.cons rfl (fun K hK => ?_) ?_
                              · skip
                                go_simp
                                refine hK _ _ ?_; clear hK K
                                refine wpAnyIn_ready (rs := [11]) (by kernel_rfl) (by simp) ?_
                                refine AllReadyIn.cons rfl (fun K hK => ?_) ?_
                                · skip
                                  go_simp
                                  refine hK _ _ ?_; clear hK K
                                  refine wpAnyIn_done (by kernel_rfl) ?_ _
                                  exact key
                                exact AllReadyIn.nil
                              exact AllReadyIn.nil
                            exact AllReadyIn.nil
                          exact AllReadyIn.nil
                        exact AllReadyIn.nil
                      refine AllReadyIn.cons rfl (fun K hK => ?_) ?_
                      · skip
                        go_simp
                        refine hK _ _ ?_; clear hK K
                        refine wpAnyIn_ready (rs := [6, 9]) (by kernel_rfl) (by simp) ?_
                        refine AllReadyIn.cons rfl (fun K hK => ?_) ?_
                        · skip
                          go_simp
                          refine hK _ _ ?_; clear hK K
                          refine wpAnyIn_ready (rs := [7, 9]) (by kernel_rfl) (by simp) ?_
                          refine AllReadyIn.cons rfl (fun K hK => ?_) ?_
                          · skip
                            go_simp
                            refine hK _ _ ?_; clear hK K
                            refine wpAnyIn_ready (rs := [9]) (by kernel_rfl) (by simp) ?_
                            refine AllReadyIn.cons rfl (fun K hK => ?_) ?_
                            · skip
                              go_simp
                              refine hK _ _ ?_; clear hK K
                              refine wpAnyIn_ready (rs := [10]) (by kernel_rfl) (by simp) ?_
                              refine AllReadyIn.cons rfl (fun K hK => ?_) ?_
                              · skip
                                go_simp
                                refine hK _ _ ?_; clear hK K
                                refine wpAnyIn_ready (rs := [11]) (by kernel_rfl) (by simp) ?_
                                refine AllReadyIn.cons rfl (fun K hK => ?_) ?_
                                · skip
                                  go_simp
                                  refine hK _ _ ?_; clear hK K
                                  refine wpAnyIn_done (by kernel_rfl) ?_ _
                                  exact key
                                exact AllReadyIn.nil
                              exact AllReadyIn.nil
                            exact AllReadyIn.nil
                          refine AllReadyIn.cons rfl (fun K hK => ?_) ?_
                          · skip
                            go_simp
                            refine hK _ _ ?_; clear hK K
                            refine wpAnyIn_ready (rs := [7]) (by kernel_rfl) (by simp) ?_
                            refine AllReadyIn.cons rfl (fun K hK => ?_) ?_
                            · skip
                              go_simp
                              refine hK _ _ ?_; clear hK K
                              refine wpAnyIn_ready (rs := [10]) (by kernel_rfl) (by simp) ?_
                              refine AllReadyIn.cons rfl (fun K hK => ?_) ?_
                              · skip
                                go_simp
                                refine hK _ _ ?_; clear hK K
                                refine wpAnyIn_ready (rs := [11]) (by kernel_rfl) (by simp) ?_
                                refine AllReadyIn.cons rfl (fun K hK => ?_) ?_
                                · skip
                                  go_simp
                                  refine hK _ _ ?_; clear hK K
                                  refine wpAnyIn_done (by kernel_rfl) ?_ _
                                  exact key
                                exact AllReadyIn.nil
                              exact AllReadyIn.nil
                            exact AllReadyIn.nil
                          exact AllReadyIn.nil
                        refine AllReadyIn.cons rfl (fun K hK => ?_) ?_
                        · skip
                          go_simp
                          refine hK _ _ ?_; clear hK K
                          refine wpAnyIn_ready (rs := [6]) (by kernel_rfl) (by simp) ?_
                          refine AllReadyIn.cons rfl (fun K hK => ?_) ?_
                          · skip
                            go_simp
                            refine hK _ _ ?_; clear hK K
                            refine wpAnyIn_ready (rs := [7]) (by kernel_rfl) (by simp) ?_
                            refine AllReadyIn.cons rfl (fun K hK => ?_) ?_
                            · skip
                              go_simp
                              refine hK _ _ ?_; clear hK K
                              refine wpAnyIn_ready (rs := [10]) (by kernel_rfl) (by simp) ?_
                              refine AllReadyIn.cons rfl (fun K hK => ?_) ?_
                              · skip
                                go_simp
                                refine hK _ _ ?_; clear hK K
                                refine wpAnyIn_ready (rs := [11]) (by kernel_rfl) (by simp) ?_
                                refine AllReadyIn.cons rfl (fun K hK => ?_) ?_
                                · skip
                                  go_simp
                                  refine hK _ _ ?_; clear hK K
                                  refine wpAnyIn_done (by kernel_rfl) ?_ _
                                  exact key
                                exact AllReadyIn.nil
                              exact AllReadyIn.nil
                            exact AllReadyIn.nil
                          exact AllReadyIn.nil
                        exact AllReadyIn.nil
                      exact AllReadyIn.nil
                    refine AllReadyIn.cons rfl (fun K hK => ?_) ?_
                    · skip
                      go_simp
                      refine hK _ _ ?_; clear hK K
                      refine wpAnyIn_ready (rs := [5, 9]) (by kernel_rfl) (by simp) ?_
                      refine AllReadyIn.cons rfl (fun K hK => ?_) ?_
                      · skip
                        go_simp
                        refine hK _ _ ?_; clear hK K
                        refine wpAnyIn_ready (rs := [6, 9]) (by kernel_rfl) (by simp) ?_
                        refine AllReadyIn.cons rfl (fun K hK => ?_) ?_
                        · skip
                          go_simp
                          refine hK _ _ ?_; clear hK K
                          refine wpAnyIn_ready (rs := [7, 9]) (by kernel_rfl) (by simp) ?_
                          refine AllReadyIn.cons rfl (fun K hK => ?_) ?_
                          · skip
                            go_simp
                            refine hK _ _ ?_; clear hK K
                            refine wpAnyIn_ready (rs := [9]) (by kernel_rfl) (by simp) ?_
                            refine AllReadyIn.cons rfl (fun K hK => ?_) ?_
                            · skip
                              go_simp
                              refine hK _ _ ?_; clear hK K
                              refine wpAnyIn_ready (rs := [10]) (by kernel_rfl) (by simp) ?_
                              refine AllReadyIn.cons rfl (fun K hK => ?_) ?_
                              · skip
                                go_simp
                                refine hK _ _ ?_; clear hK K
                                refine wpAnyIn_ready (rs := [11]) (by kernel_rfl) (by simp) ?_
                                refine AllReadyIn.cons rfl (fun K hK => ?_) ?_
                                · skip
                                  go_simp
                                  refine hK _ _ ?_; clear hK K
                                  refine wpAnyIn_done (by kernel_rfl) ?_ _
                                  exact key
                                exact AllReadyIn.nil
                              exact AllReadyIn.nil
                            exact AllReadyIn.nil
                          refine AllReadyIn.cons rfl (fun K hK => ?_) ?_
                          · skip
                            go_simp
                            refine hK _ _ ?_; clear hK K
                            refine wpAnyIn_ready (rs := [7]) (by kernel_rfl) (by simp) ?_
                            refine AllReadyIn.cons rfl (fun K hK => ?_) ?_
                            · skip
                              go_simp
                              refine hK _ _ ?_; clear hK K
                              refine wpAnyIn_ready (rs := [10]) (by kernel_rfl) (by simp) ?_
                              refine AllReadyIn.cons rfl (fun K hK => ?_) ?_
                              · skip
                                go_simp
                                refine hK _ _ ?_; clear hK K
                                refine wpAnyIn_ready (rs := [11]) (by kernel_rfl) (by simp) ?_
                                refine AllReadyIn.cons rfl (fun K hK => ?_) ?_
                                · skip
                                  go_simp
                                  refine hK _ _ ?_; clear hK K
                                  refine wpAnyIn_done (by kernel_rfl) ?_ _
                                  exact key
                                exact AllReadyIn.nil
                              exact AllReadyIn.nil
                            exact AllReadyIn.nil
                          exact AllReadyIn.nil
                        refine AllReadyIn.cons rfl (fun K hK => ?_) ?_
                        · skip
                          go_simp
                          refine hK _ _ ?_; clear hK K
                          refine wpAnyIn_ready (rs := [6]) (by kernel_rfl) (by simp) ?_
                          refine AllReadyIn.cons rfl (fun K hK => ?_) ?_
                          · skip
                            go_simp
                            refine hK _ _ ?_; clear hK K
                            refine wpAnyIn_ready (rs := [7]) (by kernel_rfl) (by simp) ?_
                            refine AllReadyIn.cons rfl (fun K hK => ?_) ?_
                            · skip
                              go_simp
                              refine hK _ _ ?_; clear hK K
                              refine wpAnyIn_ready (rs := [10]) (by kernel_rfl) (by simp) ?_
                              refine AllReadyIn.cons rfl (fun K hK => ?_) ?_
                              · skip
                                go_simp
                                refine hK _ _ ?_; clear hK K
                                refine wpAnyIn_ready (rs := [11]) (by kernel_rfl) (by simp) ?_
                                refine AllReadyIn.cons rfl (fun K hK => ?_) ?_
                                · skip
                                  go_simp
                                  refine hK _ _ ?_; clear hK K
                                  refine wpAnyIn_done (by kernel_rfl) ?_ _
                                  exact key
                                exact AllReadyIn.nil
                              exact AllReadyIn.nil
                            exact AllReadyIn.nil
                          exact AllReadyIn.nil
                        exact AllReadyIn.nil
                      refine AllReadyIn.cons rfl (fun K hK => ?_) ?_
                      · skip
                        go_simp
                        refine hK _ _ ?_; clear hK K
                        refine wpAnyIn_ready (rs := [5]) (by kernel_rfl) (by simp) ?_
                        refine AllReadyIn.cons rfl (fun K hK => ?_) ?_
                        · skip
                          go_simp
                          refine hK _ _ ?_; clear hK K
                          refine wpAnyIn_ready (rs := [6]) (by kernel_rfl) (by simp) ?_
                          refine AllReadyIn.cons rfl (fun K hK => ?_) ?_
                          · skip
                            go_simp
                            refine hK _ _ ?_; clear hK K
                            refine wpAnyIn_ready (rs := [7]) (by kernel_rfl) (by simp) ?_
                            refine AllReadyIn.cons rfl (fun K hK => ?_) ?_
                            · skip
                              go_simp
                              refine hK _ _ ?_; clear hK K
                              refine wpAnyIn_ready (rs := [10]) (by kernel_rfl) (by simp) ?_
                              refine AllReadyIn.cons rfl (fun K hK => ?_) ?_
                              · skip
                                go_simp
                                refine hK _ _ ?_; clear hK K
                                refine wpAnyIn_ready (rs := [11]) (by kernel_rfl) (by simp) ?_
                                refine AllReadyIn.cons rfl (fun K hK => ?_) ?_
                                · skip
                                  go_simp
                                  refine hK _ _ ?_; clear hK K
                                  refine wpAnyIn_done (by kernel_rfl) ?_ _
                                  exact key
                                exact AllReadyIn.nil
                              exact AllReadyIn.nil
                            exact AllReadyIn.nil
                          exact AllReadyIn.nil
                        exact AllReadyIn.nil
                      exact AllReadyIn.nil
                    exact AllReadyIn.nil
                  exact AllReadyIn.nil
                exact AllReadyIn.nil
              exact AllReadyIn.nil
            exact AllReadyIn.nil
          exact AllReadyIn.nil
        · gi_wp2
          refine wpIn_region_any (by kernel_rfl) ?_
          change wpAnyIn _ _ _ _ _ _ _ _ _ (World.drew _)
          refine wpAnyIn_ready (rs := [0, 1, 2]) (by kernel_rfl) (by simp) ?_
          refine AllReadyIn.cons rfl (fun K hK => ?_) ?_
          · skip
            go_simp
            refine hK _ _ ?_; clear hK K
            refine wpAnyIn_ready (rs := [1, 2]) (by kernel_rfl) (by simp) ?_
            refine AllReadyIn.cons rfl (fun K hK => ?_) ?_
            · skip
              go_simp
              refine hK _ _ ?_; clear hK K
              refine wpAnyIn_ready (rs := [2]) (by kernel_rfl) (by simp) ?_
              refine AllReadyIn.cons rfl (fun K hK => ?_) ?_
              · skip
                go_simp
                refine hK _ _ ?_; clear hK K
                refine wpAnyIn_ready (rs := [3]) (by kernel_rfl) (by simp) ?_
                refine AllReadyIn.cons rfl (fun K hK => ?_) ?_
                · skip
                  go_simp
                  refine hK _ _ ?_; clear hK K
                  refine wpAnyIn_ready (rs := [4]) (by kernel_rfl) (by simp) ?_
                  refine AllReadyIn.cons rfl (fun K hK => ?_) ?_
                  · skip
                    go_simp
                    refine hK _ _ ?_; clear hK K
                    refine wpAnyIn_ready (rs := [5]) (by kernel_rfl) (by simp) ?_
                    refine AllReadyIn.cons rfl (fun K hK => ?_) ?_
                    · skip
                      go_simp
                      refine hK _ _ ?_; clear hK K
                      refine wpAnyIn_ready (rs := [6]) (by kernel_rfl) (by simp) ?_
                      refine AllReadyIn.cons rfl (fun K hK => ?_) ?_
                      · skip
                        go_simp
                        refine hK _ _ ?_; clear hK K
                        refine wpAnyIn_ready (rs := [7]) (by kernel_rfl) (by simp) ?_
                        refine AllReadyIn.cons rfl (fun K hK => ?_) ?_
                        · skip
                          go_simp
                          refine hK _ _ ?_; clear hK K
                          refine wpAnyIn_ready (rs := [8]) (by kernel_rfl) (by simp) ?_
                          refine AllReadyIn.cons rfl (fun K hK => ?_) ?_
                          · skip
                            go_simp
                            refine hK _ _ ?_; clear hK K
                            refine wpAnyIn_done (by kernel_rfl) ?_ _
                            gi_wp2
                            exact HSET'.out X.drew.drew rfl rfl rfl rfl
                          exact AllReadyIn.nil
                        exact AllReadyIn.nil
                      exact AllReadyIn.nil
                    exact AllReadyIn.nil
                  exact AllReadyIn.nil
                exact AllReadyIn.nil
              exact AllReadyIn.nil
            refine AllReadyIn.cons rfl (fun K hK => ?_) ?_
            · skip
              go_simp
              refine hK _ _ ?_; clear hK K
              refine wpAnyIn_ready (rs := [1, 3]) (by kernel_rfl) (by simp) ?_
              refine AllReadyIn.cons rfl (fun K hK => ?_) ?_
              · skip
                go_simp
                refine hK _ _ ?_; clear hK K
                refine wpAnyIn_ready (rs := [3]) (by kernel_rfl) (by simp) ?_
                refine AllReadyIn.cons rfl (fun K hK => ?_) ?_
                · skip
                  go_simp
                  refine hK _ _ ?_; clear hK K
                  refine wpAnyIn_ready (rs := [4]) (by kernel_rfl) (by simp) ?_
                  refine AllReadyIn.cons rfl (fun K hK => ?_) ?_
                  · skip
                    go_simp
                    refine hK _ _ ?_; clear hK K
                    refine wpAnyIn_ready (rs := [5]) (by kernel_rfl) (by simp) ?_
                    refine AllReadyIn.cons rfl (fun K hK => ?_) ?_
                    · skip
                      go_simp
                      refine hK _ _ ?_; clear hK K
                      refine wpAnyIn_ready (rs := [6]) (by kernel_rfl) (by simp) ?_
                      refine AllReadyIn.cons rfl (fun K hK => ?_) ?_
                      · skip
                        go_simp
                        refine hK _ _ ?_; clear hK K
                        refine wpAnyIn_ready (rs := [7]) (by kernel_rfl) (by simp) ?_
                        refine AllReadyIn.cons rfl (fun K hK => ?_) ?_
                        · skip
                          go_simp
                          refine hK _ _ ?_; clear hK K
                          refine wpAnyIn_ready (rs := [8]) (by kernel_rfl) (by simp) ?_
                          refine AllReadyIn.cons rfl (fun K hK => ?_) ?_
                          · skip
                            go_simp
                            refine hK _ _ ?_; clear hK K
                            refine wpAnyIn_done (by kernel_rfl) ?_ _
                            gi_wp2
                            exact HSET'.out X.drew.drew rfl rfl rfl rfl
                          exact AllReadyIn.nil
                        exact AllReadyIn.nil
                      exact AllReadyIn.nil
                    exact AllReadyIn.nil
                  exact AllReadyIn.nil
                exact AllReadyIn.nil
              refine AllReadyIn.cons rfl (fun K hK => ?_) ?_
              · skip
                go_simp
                refine hK _ _ ?_; clear hK K
                refine wpAnyIn_ready (rs := [1, 4]) (by kernel_rfl) (by simp) ?_
                refine AllReadyIn.cons rfl (fun K hK => ?_) ?_
                · skip
                  go_simp
                  refine hK _ _ ?_; clear hK K
                  refine wpAnyIn_ready (rs := [4]) (by kernel_rfl) (by simp) ?_
                  refine AllReadyIn.cons rfl (fun K hK => ?_) ?_
                  · skip
                    go_simp
                    refine hK _ _ ?_; clear hK K
                    refine wpAnyIn_ready (rs := [5]) (by kernel_rfl) (by simp) ?_
                    refine AllReadyIn.cons rfl (fun K hK => ?_) ?_
                    · skip
                      go_simp
                      refine hK _ _ ?_; clear hK K
                      refine wpAnyIn_ready (rs := [6]) (by kernel_rfl) (by simp) ?_
                      refine AllReadyIn.cons rfl (fun K hK => ?_) ?_
                      · skip
                        go_simp
                        refine hK _ _ ?_; clear hK K
                        refine wpAnyIn_ready (rs := [7]) (by kernel_rfl) (by simp) ?_
                        refine AllReadyIn.cons rfl (fun K hK => ?_) ?_
                        · skip
                          go_simp
                          refine hK _ _ ?_; clear hK K
                          refine wpAnyIn_ready (rs := [8]) (by kernel_rfl) (by simp) ?_
                          refine AllReadyIn.cons rfl (fun K hK => ?_) ?_
                          · skip
                            go_simp
                            refine hK _ _ ?_; clear hK K
                            refine wpAnyIn_done (by kernel_rfl) ?_ _
                            gi_wp2
                            exact HSET'.out X.drew.drew rfl rfl rfl rfl
                          exact AllReadyIn.nil
                        exact AllReadyIn.nil
                      exact AllReadyIn.nil
                    exact AllReadyIn.nil
                  exact AllReadyIn.nil
                refine AllReadyIn.cons rfl (fun K hK => ?_) ?_
                · skip
                  go_simp
                  refine hK _ _ ?_; clear hK K
                  refine wpAnyIn_ready (rs := [1]) (by kernel_rfl) (by simp) ?_
                  refine AllReadyIn.cons rfl (fun K hK => ?_) ?_
                  · skip
                    go_simp
                    refine hK _ _ ?_; clear hK K
                    refine wpAnyIn_ready (rs := [5]) (by kernel_rfl) (by simp) ?_
                    refine AllReadyIn.cons rfl (fun K hK => ?_) ?_
                    · skip
                      go_simp
                      refine hK _ _ ?_; clear hK K
                      refine wpAnyIn_ready (rs := [6]) (by kernel_rfl) (by simp) ?_
                      refine AllReadyIn.cons rfl (fun K hK => ?_) ?_
                      · skip
                        go_simp
                        refine hK _ _ ?_; clear hK K
                        refine wpAnyIn_ready (rs := [7]) (by kernel_rfl) (by simp) ?_
                        refine AllReadyIn.cons rfl (fun K hK => ?_) ?_
                        · skip
                          go_simp
                          refine hK _ _ ?_; clear hK K
                          refine wpAnyIn_ready (rs := [8]) (by kernel_rfl) (by simp) ?_
                          refine AllReadyIn.cons rfl (fun K hK => ?_) ?_
                          · skip
                            go_simp
                            refine hK _ _ ?_; clear hK K
                            refine wpAnyIn_done (by kernel_rfl) ?_ _
                            gi_wp2
                            exact HSET'.out X.drew.drew rfl rfl rfl rfl
                          exact AllReadyIn.nil
                        exact AllReadyIn.nil
                      exact AllReadyIn.nil
                    exact AllReadyIn.nil
                  exact AllReadyIn.nil
                exact AllReadyIn.nil
              exact AllReadyIn.nil
            exact AllReadyIn.nil
          refine AllReadyIn.cons rfl (fun K hK => ?_) ?_
          · skip
            go_simp
            refine hK _ _ ?_; clear hK K
            refine wpAnyIn_ready (rs := [0, 2]) (by kernel_rfl) (by simp) ?_
            refine AllReadyIn.cons rfl (fun K hK => ?_) ?_
            · skip
              go_simp
              refine hK _ _ ?_; clear hK K
              refine wpAnyIn_ready (rs := [2]) (by kernel_rfl) (by simp) ?_
              refine AllReadyIn.cons rfl (fun K hK => ?_) ?_
              · skip
                go_simp
                refine hK _ _ ?_; clear hK K
                refine wpAnyIn_ready (rs := [3]) (by kernel_rfl) (by simp) ?_
                refine AllReadyIn.cons rfl (fun K hK => ?_) ?_
                · skip
                  go_simp
                  refine hK _ _ ?_; clear hK K
                  refine wpAnyIn_ready (rs := [4]) (by kernel_rfl) (by simp) ?_
                  refine AllReadyIn.cons rfl (fun K hK => ?_) ?_
                  · skip
                    go_simp
                    refine hK _ _ ?_; clear hK K
                    refine wpAnyIn_ready (rs := [5]) (by kernel_rfl) (by simp) ?_
                    refine AllReadyIn.cons rfl (fun K hK => ?_) ?_
                    · skip
                      go_simp
                      refine hK _ _ ?_; clear hK K
                      refine wpAnyIn_ready (rs := [6]) (by kernel_rfl) (by simp) ?_
                      refine AllReadyIn.cons rfl (fun K hK => ?_) ?_
                      · skip
                        go_simp
                        refine hK _ _ ?_; clear hK K
                        refine wpAnyIn_ready (rs := [7]) (by kernel_rfl) (by simp) ?_
                        refine AllReadyIn.cons rfl (fun K hK => ?_) ?_
                        · skip
                          go_simp
                          refine hK _ _ ?_; clear hK K
                          refine wpAnyIn_ready (rs := [8]) (by kernel_rfl) (by simp) ?_
                          refine AllReadyIn.cons rfl (fun K hK => ?_) ?_
                          · skip
                            go_simp
                            refine hK _ _ ?_; clear hK K
                            refine wpAnyIn_done (by kernel_rfl) ?_ _
                            gi_wp2
                            exact HSET'.out X.drew.drew rfl rfl rfl rfl
                          exact AllReadyIn.nil
                        exact AllReadyIn.nil
                      exact AllReadyIn.nil
                    exact AllReadyIn.nil
                  exact AllReadyIn.nil
                exact AllReadyIn.nil
              exact AllReadyIn.nil
            refine AllReadyIn.cons rfl (fun K hK => ?_) ?_
            · skip
              go_simp
              refine hK _ _ ?_; clear hK K
              refine wpAnyIn_ready (rs := [0, 3]) (by kernel_rfl) (by simp) ?_
              refine AllReadyIn.cons rfl (fun K hK => ?_) ?_
              · skip
                go_simp
                refine hK _ _ ?_; clear hK K
                refine wpAnyIn_ready (rs := [3]) (by kernel_rfl) (by simp) ?_
                refine AllReadyIn.cons rfl (fun K hK => ?_) ?_
                · skip
                  go_simp
                  refine hK _ _ ?_; clear hK K
                  refine wpAnyIn_ready (rs := [4]) (by kernel_rfl) (by simp) ?_
                  refine AllReadyIn.cons rfl (fun K hK => ?_) ?_
                  · skip
                    go_simp
                    refine hK _ _ ?_; clear hK K
                    refine wpAnyIn_ready (rs := [5]) (by kernel_rfl) (by simp) ?_
                    refine AllReadyIn.cons rfl (fun K hK => ?_) ?_
                    · skip
                      go_simp
                      refine hK _ _ ?_; clear hK K
                      refine wpAnyIn_ready (rs := [6]) (by kernel_rfl) (by simp) ?_
                      refine AllReadyIn.cons rfl (fun K hK => ?_) ?_
                      · skip
                        go_simp
                        refine hK _ _ ?_; clear hK K
                        refine wpAnyIn_ready (rs := [7]) (by kernel_rfl) (by simp) ?_
                        refine AllReadyIn.cons rfl (fun K hK => ?_) ?_
                        · skip
                          go_simp
                          refine hK _ _ ?_; clear hK K
                          refine wpAnyIn_ready (rs := [8]) (by kernel_rfl) (by simp) ?_
                          refine AllReadyIn.cons rfl (fun K hK => ?_) ?_
                          · skip
                            go_simp
                            refine hK _ _ ?_; clear hK K
                            refine wpAnyIn_done (by kernel_rfl) ?_ _
                            gi_wp2
                            exact HSET'.out X.drew.drew rfl rfl rfl rfl
                          exact AllReadyIn.nil
                        exact AllReadyIn.nil
                      exact AllReadyIn.nil
                    exact AllReadyIn.nil
                  exact AllReadyIn.nil
                exact AllReadyIn.nil
              refine AllReadyIn.cons rfl (fun K hK => ?_) ?_
              · skip
                go_simp
                refine hK _ _ ?_; clear hK K
                refine wpAnyIn_ready (rs := [0, 4]) (by kernel_rfl) (by simp) ?_
                refine AllReadyIn.cons rfl (fun K hK => ?_) ?_
                · skip
                  go_simp
                  refine hK _ _ ?_; clear hK K
                  refine wpAnyIn_ready (rs := [4]) (by kernel_rfl) (by simp) ?_
                  refine AllReadyIn.cons rfl (fun K hK => ?_) ?_
                  · skip
                    go_simp
                    refine hK _ _ ?_; clear hK K
                    refine wpAnyIn_ready (rs := [5]) (by kernel_rfl) (by simp) ?_
                    refine AllReadyIn.cons rfl (fun K hK => ?_) ?_
                    · skip
                      go_simp
                      refine hK _ _ ?_; clear hK K
                      refine wpAnyIn_ready (rs := [6]) (by kernel_rfl) (by simp) ?_
                      refine AllReadyIn.cons rfl (fun K hK => ?_) ?_
                      · skip
                        go_simp
                        refine hK _ _ ?_; clear hK K
                        refine wpAnyIn_ready (rs := [7]) (by kernel_rfl) (by simp) ?_
                        refine AllReadyIn.cons rfl (fun K hK => ?_) ?_
                        · skip
                          go_simp
                          refine hK _ _ ?_; clear hK K
                          refine wpAnyIn_ready (rs := [8]) (by kernel_rfl) (by simp) ?_
                          refine AllReadyIn.cons rfl (fun K hK => ?_) ?_
                          · skip
                            go_simp
                            refine hK _ _ ?_; clear hK K
                            refine wpAnyIn_done (by kernel_rfl) ?_ _
                            gi_wp2
                            exact HSET'.out X.drew.drew rfl rfl rfl rfl
                          exact AllReadyIn.nil
                        exact AllReadyIn.nil
                      exact AllReadyIn.nil
                    exact AllReadyIn.nil
                  exact AllReadyIn.nil
                refine AllReadyIn.cons rfl (fun K hK => ?_) ?_
                · skip
                  go_simp
                  refine hK _ _ ?_; clear hK K
                  refine wpAnyIn_ready (rs := [0, 5]) (by kernel_rfl) (by simp) ?_
                  refine AllReadyIn.cons rfl (fun K hK => ?_) ?_
                  · skip
                    go_simp
                    refine hK _ _ ?_; clear hK K
                    refine wpAnyIn_ready (rs := [5]) (by kernel_rfl) (by simp) ?_
                    refine AllReadyIn.cons rfl (fun K hK => ?_) ?_
                    · skip
                      go_simp
                      refine hK _ _ ?_; clear hK K
                      refine wpAnyIn_ready (rs := [6]) (by kernel_rfl) (by simp) ?_
                      refine AllReadyIn.cons rfl (fun K hK => ?_) ?_
                      · skip
                        go_simp
                        refine hK _ _ ?_; clear hK K
                        refine wpAnyIn_ready (rs := [7]) (by kernel_rfl) (by simp) ?_
                        refine AllReadyIn.cons rfl (fun K hK => ?_) ?_
                        · skip
                          go_simp
                          refine hK _ _ ?_; clear hK K
                          refine wpAnyIn_ready (rs := [8]) (by kernel_rfl) (by simp) ?_
                          refine AllReadyIn.cons rfl (fun K hK => ?_) ?_
                          · skip
                            go_simp
                            refine hK _ _ ?_; clear hK K
                            refine wpAnyIn_done (by kernel_rfl) ?_ _
                            gi_wp2
                            exact HSET'.out X.drew.drew rfl rfl rfl rfl
                          exact AllReadyIn.nil
                        exact AllReadyIn.nil
                      exact AllReadyIn.nil
                    exact AllReadyIn.nil
                  refine AllReadyIn.cons rfl (fun K hK => ?_) ?_
                  · skip
                    go_simp
                    refine hK _ _ ?_; clear hK K
                    refine wpAnyIn_ready (rs := [0, 6]) (by kernel_rfl) (by simp) ?_
                    refine AllReadyIn.cons rfl (fun K hK => ?_) ?_
                    · skip
                      go_simp
                      refine hK _ _ ?_; clear hK K
                      refine wpAnyIn_ready (rs := [6]) (by kernel_rfl) (by simp) ?_
                      refine AllReadyIn.cons rfl (fun K hK => ?_) ?_
                      · skip
                        go_simp
                        refine hK _ _ ?_; clear hK K
                        refine wpAnyIn_ready (rs := [7]) (by kernel_rfl) (by simp) ?_
                        refine AllReadyIn.cons rfl (fun K hK => ?_) ?_
                        · skip
                          go_simp
                          refine hK _ _ ?_; clear hK K
                          refine wpAnyIn_ready (rs := [8]) (by kernel_rfl) (by simp) ?_
                          refine AllReadyIn.cons rfl (fun K hK => ?_) ?_
                          · skip
                            go_simp
                            refine hK _ _ ?_; clear hK K
                            refine wpAnyIn_done (by kernel_rfl) ?_ _
                            gi_wp2
                            exact HSET'.out X.drew.drew rfl rfl rfl rfl
                          exact AllReadyIn.nil
                        exact AllReadyIn.nil
                      exact AllReadyIn.nil
                    refine AllReadyIn.cons rfl (fun K hK => ?_) ?_
                    · skip
                      go_simp
                      refine hK _ _ ?_; clear hK K
                      refine wpAnyIn_ready (rs := [0]) (by kernel_rfl) (by simp) ?_
                      refine AllReadyIn.cons rfl (fun K hK => ?_) ?_
                      · skip
                        go_simp
                        refine hK _ _ ?_; clear hK K
                        refine wpAnyIn_ready (rs := [7]) (by kernel_rfl) (by simp) ?_
                        refine AllReadyIn.cons rfl (fun K hK => ?_) ?_
                        · skip
                          go_simp
                          refine hK _ _ ?_; clear hK K
                          refine wpAnyIn_ready (rs := [8]) (by kernel_rfl) (by simp) ?_
                          refine AllReadyIn.cons rfl (fun K hK => ?_) ?_
                          · skip
                            go_simp
                            refine hK _ _ ?_; clear hK K
                            refine wpAnyIn_done (by kernel_rfl) ?_ _
                            gi_wp2
                            exact HSET'.out X.drew.drew rfl rfl rfl rfl
                          exact AllReadyIn.nil
                        exact AllReadyIn.nil
                      exact AllReadyIn.nil
                    exact AllReadyIn.nil
                  exact AllReadyIn.nil
                exact AllReadyIn.nil
              exact AllReadyIn.nil
            exact AllReadyIn.nil
          refine AllReadyIn.cons rfl (fun K hK => ?_) ?_
          · skip
            go_simp
            refine hK _ _ ?_; clear hK K
            refine wpAnyIn_ready (rs := [0, 1, 3]) (by kernel_rfl) (by simp) ?_
            refine AllReadyIn.cons rfl (fun K hK => ?_) ?_
            · skip
              go_simp
              refine hK _ _ ?_; clear hK K
              refine wpAnyIn_ready (rs := [1, 3]) (by kernel_rfl) (by simp) ?_
              refine AllReadyIn.cons rfl (fun K hK => ?_) ?_
              · skip
                go_simp
                refine hK _ _ ?_; clear hK K
                refine wpAnyIn_ready (rs := [3]) (by kernel_rfl) (by simp) ?_
                refine AllReadyIn.cons rfl (fun K hK => ?_) ?_
                · skip
                  go_simp
                  refine hK _ _ ?_; clear hK K
                  refine wpAnyIn_ready (rs := [4]) (by kernel_rfl) (by simp) ?_
                  refine AllReadyIn.cons rfl (fun K hK => ?_) ?_
                  · skip
                    go_simp
                    refine hK _ _ ?_; clear hK K
                    refine wpAnyIn_ready (rs := [5]) (by kernel_rfl) (by simp) ?_
                    refine AllReadyIn.cons rfl (fun K hK => ?_) ?_
                    · skip
                      go_simp
                      refine hK _ _ ?_; clear hK K
                      refine wpAnyIn_ready (rs := [6]) (by kernel_rfl) (by simp) ?_
                      refine AllReadyIn.cons rfl (fun K hK => ?_) ?_
                      · skip
                        go_simp
                        refine hK _ _ ?_; clear hK K
                        refine wpAnyIn_ready (rs := [7]) (by kernel_rfl) (by simp) ?_
                        refine AllReadyIn.cons rfl (fun K hK => ?_) ?_
                        · skip
                          go_simp
                          refine hK _ _ ?_; clear hK K
                          refine wpAnyIn_ready (rs := [8]) (by kernel_rfl) (by simp) ?_
                          refine AllReadyIn.cons rfl (fun K hK => ?_) ?_
                          · skip
                            go_simp
                            refine hK _ _ ?_; clear hK K
                            refine wpAnyIn_done (by kernel_rfl) ?_ _
                            gi_wp2
                            exact HSET'.out X.drew.drew rfl rfl rfl rfl
                          exact AllReadyIn.nil
                        exact AllReadyIn.nil
                      exact AllReadyIn.nil
                    exact AllReadyIn.nil
                  exact AllReadyIn.nil
                exact AllReadyIn.nil
              refine AllReadyIn.cons rfl (fun K hK => ?_) ?_
              · skip
                go_simp
                refine hK _ _ ?_; clear hK K
                refine wpAnyIn_ready (rs := [1, 4]) (by kernel_rfl) (by simp) ?_
                refine AllReadyIn.cons rfl (fun K hK => ?_) ?_
                · skip
                  go_simp
                  refine hK _ _ ?_; clear hK K
                  refine wpAnyIn_ready (rs := [4]) (by kernel_rfl) (by simp) ?_
                  refine AllReadyIn.cons rfl (fun K hK => ?_) ?_
                  · skip
                    go_simp
                    refine hK _ _ ?_; clear hK K
                    refine wpAnyIn_ready (rs := [5]) (by kernel_rfl) (by simp) ?_
                    refine AllReadyIn.cons rfl (fun K hK => ?_) ?_
                    · skip
                      go_simp
                      refine hK _ _ ?_; clear hK K
                      refine wpAnyIn_ready (rs := [6]) (by kernel_rfl) (by simp) ?_
                      refine AllReadyIn.cons rfl (fun K hK => ?_) ?_
                      · skip
                        go_simp
                        refine hK _ _ ?_; clear hK K
                        refine wpAnyIn_ready (rs := [7]) (by kernel_rfl) (by simp) ?_
                        refine AllReadyIn.cons rfl (fun K hK => ?_) ?_
                        · skip
                          go_simp
                          refine hK _ _ ?_; clear hK K
                          refine wpAnyIn_ready (rs := [8]) (by kernel_rfl) (by simp) ?_
                          refine AllReadyIn.cons rfl (fun K hK => ?_) ?_
                          · skip
                            go_simp
                            refine hK _ _ ?_; clear hK K
                            refine wpAnyIn_done (by kernel_rfl) ?_ _
                            gi_wp2
                            exact HSET'.out X.drew.drew rfl rfl rfl rfl
                          exact AllReadyIn.nil
                        exact AllReadyIn.nil
                      exact AllReadyIn.nil
                    exact AllReadyIn.nil
                  exact AllReadyIn.nil
                refine AllReadyIn.cons rfl (fun K hK => ?_) ?_
                · skip
                  go_simp
                  refine hK _ _ ?_; clear hK K
                  refine wpAnyIn_ready (rs := [1]) (by kernel_rfl) (by simp) ?_
                  refine AllReadyIn.cons rfl (fun K hK => ?_) ?_
                  · skip
                    go_simp
                    refine hK _ _ ?_; clear hK K
                    refine wpAnyIn_ready (rs := [5]) (by kernel_rfl) (by simp) ?_
                    refine AllReadyIn.cons rfl (fun K hK => ?_) ?_
                    · skip
                      go_simp
                      refine hK _ _ ?_; clear hK K
                      refine wpAnyIn_ready (rs := [6]) (by kernel_rfl) (by simp) ?_
                      refine AllReadyIn.cons rfl (fun K hK => ?_) ?_
                      · skip
                        go_simp
                        refine hK _ _ ?_; clear hK K
                        refine wpAnyIn_ready (rs := [7]) (by kernel_rfl) (by simp) ?_
                        refine AllReadyIn.cons rfl (fun K hK => ?_) ?_
                        · skip
                          go_simp
                          refine hK _ _ ?_; clear hK K
                          refine wpAnyIn_ready (rs := [8]) (by kernel_rfl) (by simp) ?_
                          refine AllReadyIn.cons rfl (fun K hK => ?_) ?_
                          · skip
                            go_simp
                            refine hK _ _ ?_; clear hK K
                            refine wpAnyIn_done (by kernel_rfl) ?_ _
                            gi_wp2
                            exact HSET'.out X.drew.drew rfl rfl rfl rfl
                          exact AllReadyIn.nil
                        exact AllReadyIn.nil
                      exact AllReadyIn.nil
                    exact AllReadyIn.nil
                  exact AllReadyIn.nil
                exact AllReadyIn.nil
              exact AllReadyIn.nil
            refine AllReadyIn.cons rfl (fun K hK => ?_) ?_
            · skip
              go_simp
              refine hK _ _ ?_; clear hK K
              refine wpAnyIn_ready (rs := [0, 3]) (by kernel_rfl) (by simp) ?_
              refine AllReadyIn.cons rfl (fun K hK => ?_) ?_
              · skip
                go_simp
                refine hK _ _ ?_; clear hK K
                refine wpAnyIn_ready (rs := [3]) (by kernel_rfl) (by simp) ?_
                refine AllReadyIn.cons rfl (fun K hK => ?_) ?_
                · skip
                  go_simp
                  refine hK _ _ ?_; clear hK K
                  refine wpAnyIn_ready (rs := [4]) (by kernel_rfl) (by simp) ?_
                  refine AllReadyIn.cons rfl (fun K hK => ?_) ?_
                  · skip
                    go_simp
                    refine hK _ _ ?_; clear hK K
                    refine wpAnyIn_ready (rs := [5]) (by kernel_rfl) (by simp) ?_
                    refine AllReadyIn.cons rfl (fun K hK => ?_) ?_
                    · skip
                      go_simp
                      refine hK _ _ ?_; clear hK K
                      refine wpAnyIn_ready (rs := [6]) (by kernel_rfl) (by simp) ?_
                      refine AllReadyIn.cons rfl (fun K hK => ?_) ?_
                      · skip
                        go_simp
                        refine hK _ _ ?_; clear hK K
                        refine wpAnyIn_ready (rs := [7]) (by kernel_rfl) (by simp) ?_
                        refine AllReadyIn.cons rfl (fun K hK => ?_) ?_
                        · skip
                          go_simp
                          refine hK _ _ ?_; clear hK K
                          refine wpAnyIn_ready (rs := [8]) (by kernel_rfl) (by simp) ?_
                          refine AllReadyIn.cons rfl (fun K hK => ?_) ?_
                          · skip
                            go_simp
                            refine hK _ _ ?_; clear hK K
                            refine wpAnyIn_done (by kernel_rfl) ?_ _
                            gi_wp2
                            exact HSET'.out X.drew.drew rfl rfl rfl rfl
                          exact AllReadyIn.nil
                        exact AllReadyIn.nil
                      exact AllReadyIn.nil
                    exact AllReadyIn.nil
                  exact AllReadyIn.nil
                exact AllReadyIn.nil
              refine AllReadyIn.cons rfl (fun K hK => ?_) ?_
              · skip
                go_simp
                refine hK _ _ ?_; clear hK K
                refine wpAnyIn_ready (rs := [0, 4]) (by kernel_rfl) (by simp) ?_
                refine AllReadyIn.cons rfl (fun K hK => ?_) ?_
                · skip
                  go_simp
                  refine hK _ _ ?_; clear hK K
                  refine wpAnyIn_ready (rs := [4]) (by kernel_rfl) (by simp) ?_
                  refine AllReadyIn.cons rfl (fun K hK => ?_) ?_
                  · skip
                    go_simp
                    refine hK _ _ ?_; clear hK K
                    refine wpAnyIn_ready (rs := [5]) (by kernel_rfl) (by simp) ?_
                    refine AllReadyIn.cons rfl (fun K hK => ?_) ?_
                    · skip
                      go_simp
                      refine hK _ _ ?_; clear hK K
                      refine wpAnyIn_ready (rs := [6]) (by kernel_rfl) (by simp) ?_
                      refine AllReadyIn.cons rfl (fun K hK => ?_) ?_
                      · skip
                        go_simp
                        refine hK _ _ ?_; clear hK K
                        refine wpAnyIn_ready (rs := [7]) (by kernel_rfl) (by simp) ?_
                        refine AllReadyIn.cons rfl (fun K hK => ?_) ?_
                        · skip
                          go_simp
                          refine hK _ _ ?_; clear hK K
                          refine wpAnyIn_ready (rs := [8]) (by kernel_rfl) (by simp) ?_
                          refine AllReadyIn.cons rfl (fun K hK => ?_) ?_
                          · skip
                            go_simp
                            refine hK _ _ ?_; clear hK K
                            refine wpAnyIn_done (by kernel_rfl) ?_ _
                            gi_wp2
                            exact HSET'.out X.drew.drew rfl rfl rfl rfl
                          exact AllReadyIn.nil
                        exact AllReadyIn.nil
                      exact AllReadyIn.nil
                    exact AllReadyIn.nil
                  exact AllReadyIn.nil
                refine AllReadyIn.cons rfl (fun K hK => ?_) ?_
                · skip
                  go_simp
                  refine hK _ _ ?_; clear hK K
                  refine wpAnyIn_ready (rs := [0, 5]) (by kernel_rfl) (by simp) ?_
                  refine AllReadyIn.cons rfl (fun K hK => ?_) ?_
                  · skip
                    go_simp
                    refine hK _ _ ?_; clear hK K
                    refine wpAnyIn_ready (rs := [5]) (by kernel_rfl) (by simp) ?_
                    refine AllReadyIn.cons rfl (fun K hK => ?_) ?_
                    · skip
                      go_simp
                      refine hK _ _ ?_; clear hK K
                      refine wpAnyIn_ready (rs := [6]) (by kernel_rfl) (by simp) ?_
                      refine AllReadyIn.cons rfl (fun K hK => ?_) ?_
                      · skip
                        go_simp
                        refine hK _ _ ?_; clear hK K
                        refine wpAnyIn_ready (rs := [7]) (by kernel_rfl) (by simp) ?_
                        refine AllReadyIn.cons rfl (fun K hK => ?_) ?_
                        · skip
                          go_simp
                          refine hK _ _ ?_; clear hK K
                          refine wpAnyIn_ready (rs := [8]) (by kernel_rfl) (by simp) ?_
                          refine AllReadyIn.cons rfl (fun K hK => ?_) ?_
                          · skip
                            go_simp
                            refine hK _ _ ?_; clear hK K
                            refine wpAnyIn_done (by kernel_rfl) ?_ _
                            gi_wp2
                            exact HSET'.out X.drew.drew rfl rfl rfl rfl
                          exact AllReadyIn.nil
                        exact AllReadyIn.nil
                      exact AllReadyIn.nil
                    exact AllReadyIn.nil
                  refine AllReadyIn.cons rfl (fun K hK => ?_) ?_
                  · skip
                    go_simp
                    refine hK _ _ ?_; clear hK K
                    refine wpAnyIn_ready (rs := [0, 6]) (by kernel_rfl) (by simp) ?_
                    refine AllReadyIn.cons rfl (fun K hK => ?_) ?_
                    · skip
                      go_simp
                      refine hK _ _ ?_; clear hK K
                      refine wpAnyIn_ready (rs := [6]) (by kernel_rfl) (by simp) ?_
                      refine AllReadyIn.cons rfl (fun K hK => ?_) ?_
                      · skip
                        go_simp
                        refine hK _ _ ?_; clear hK K
                        refine wpAnyIn_ready (rs := [7]) (by kernel_rfl) (by simp) ?_
                        refine AllReadyIn.cons rfl (fun K hK => ?_) ?_
                        · skip
                          go_simp
                          refine hK _ _ ?_; clear hK K
                          refine wpAnyIn_ready (rs := [8]) (by kernel_rfl) (by simp) ?_
                          refine AllReadyIn.cons rfl (fun K hK => ?_) ?_
                          · skip
                            go_simp
                            refine hK _ _ ?_; clear hK K
                            refine wpAnyIn_done (by kernel_rfl) ?_ _
                            gi_wp2
                            exact HSET'.out X.drew.drew rfl rfl rfl rfl
                          exact AllReadyIn.nil
                        exact AllReadyIn.nil
                      exact AllReadyIn.nil
                    refine AllReadyIn.cons rfl (fun K hK => ?_) ?_
                    · skip
                      go_simp
                      refine hK _ _ ?_; clear hK K
                      refine wpAnyIn_ready (rs := [0]) (by kernel_rfl) (by simp) ?_
                      refine AllReadyIn.cons rfl (fun K hK => ?_) ?_
                      · skip
                        go_simp
                        refine hK _ _ ?_; clear hK K
                        refine wpAnyIn_ready (rs := [7]) (by kernel_rfl) (by simp) ?_
                        refine AllReadyIn.cons rfl (fun K hK => ?_) ?_
                        · skip
                          go_simp
                          refine hK _ _ ?_; clear hK K
                          refine wpAnyIn_ready (rs := [8]) (by kernel_rfl) (by simp) ?_
                          refine AllReadyIn.cons rfl (fun K hK => ?_) ?_
                          · skip
                            go_simp
                            refine hK _ _ ?_; clear hK K
                            refine wpAnyIn_done (by kernel_rfl) ?_ _
                            gi_wp2
                            exact HSET'.out X.drew.drew rfl rfl rfl rfl
                          exact AllReadyIn.nil
                        exact AllReadyIn.nil
                      exact AllReadyIn.nil
                    exact AllReadyIn.nil
                  exact AllReadyIn.nil
                exact AllReadyIn.nil
              exact AllReadyIn.nil
            refine AllReadyIn.cons rfl (fun K hK => ?_) ?_
            · skip
              go_simp
              refine hK _ _ ?_; clear hK K
              refine wpAnyIn_ready (rs := [0, 1, 4]) (by kernel_rfl) (by simp) ?_
              refine AllReadyIn.cons rfl (fun K hK => ?_) ?_
              · skip
                go_simp
                refine hK _ _ ?_; clear hK K
                refine wpAnyIn_ready (rs := [1, 4]) (by kernel_rfl) (by simp) ?_
                refine AllReadyIn.cons rfl (fun K hK => ?_) ?_
                · skip
                  go_simp
                  refine hK _ _ ?_; clear hK K
                  refine wpAnyIn_ready (rs := [4]) (by kernel_rfl) (by simp) ?_
                  refine AllReadyIn.cons rfl (fun K hK => ?_) ?_
                  · skip
                    go_simp
                    refine hK _ _ ?_; clear hK K
                    refine wpAnyIn_ready (rs := [5]) (by kernel_rfl) (by simp) ?_
                    refine AllReadyIn.cons rfl (fun K hK => ?_) ?_
                    · skip
                      go_simp
                      refine hK _ _ ?_; clear hK K
                      refine wpAnyIn_ready (rs := [6]) (by kernel_rfl) (by simp) ?_
                      refine AllReadyIn.cons rfl (fun K hK => ?_) ?_
                      · skip
                        go_simp
                        refine hK _ _ ?_; clear hK K
                        refine wpAnyIn_ready (rs := [7]) (by kernel_rfl) (by simp) ?_
                        refine AllReadyIn.cons rfl (fun K hK => ?_) ?_
                        · skip
                          go_simp
                          refine hK _ _ ?_; clear hK K
                          refine wpAnyIn_ready (rs := [8]) (by kernel_rfl) (by simp) ?_
                          refine AllReadyIn.cons rfl (fun K hK => ?_) ?_
                          · skip
                            go_simp
                            refine hK _ _ ?_; clear hK K
                            refine wpAnyIn_done (by kernel_rfl) ?_ _
                            gi_wp2
                            exact HSET'.out X.drew.drew rfl rfl rfl rfl
                          exact AllReadyIn.nil
                        exact AllReadyIn.nil
                      exact AllReadyIn.nil
                    exact AllReadyIn.nil
                  exact AllReadyIn.nil
                refine AllReadyIn.cons rfl (fun K hK => ?_) ?_
                · skip
                  go_simp
                  refine hK _ _ ?_; clear hK K
                  refine wpAnyIn_ready (rs := [1]) (by kernel_rfl) (by simp) ?_
                  refine AllReadyIn.cons rfl (fun K hK => ?_) ?_
                  · skip
                    go_simp
                    refine hK _ _ ?_; clear hK K
                    refine wpAnyIn_ready (rs := [5]) (by kernel_rfl) (by simp) ?_
                    refine AllReadyIn.cons rfl (fun K hK => ?_) ?_
                    · skip
                      go_simp
                      refine hK _ _ ?_; clear hK K
                      refine wpAnyIn_ready (rs := [6]) (by kernel_rfl) (by simp) ?_
                      refine AllReadyIn.cons rfl (fun K hK => ?_) ?_
                      · skip
                        go_simp
                        refine hK _ _ ?_; clear hK K
                        refine wpAnyIn_ready (rs := [7]) (by kernel_rfl) (by simp) ?_
                        refine AllReadyIn.cons rfl (fun K hK => ?_) ?_
                        · skip
                          go_simp
                          refine hK _ _ ?_; clear hK K
                          refine wpAnyIn_ready (rs := [8]) (by kernel_rfl) (by simp) ?_
                          refine AllReadyIn.cons rfl (fun K hK => ?_) ?_
                          · skip
                            go_simp
                            refine hK _ _ ?_; clear hK K
                            refine wpAnyIn_done (by kernel_rfl) ?_ _
                            gi_wp2
                            exact HSET'.out X.drew.drew rfl rfl rfl rfl
                          exact AllReadyIn.nil
                        exact AllReadyIn.nil
                      exact AllReadyIn.nil
                    exact AllReadyIn.nil
                  exact AllReadyIn.nil
                exact AllReadyIn.nil
              refine AllReadyIn.cons rfl (fun K hK => ?_) ?_
              · skip
                go_simp
                refine hK _ _ ?_; clear hK K
                refine wpAnyIn_ready (rs := [0, 4]) (by kernel_rfl) (by simp) ?_
                refine AllReadyIn.cons rfl (fun K hK => ?_) ?_
                · skip
                  go_simp
                  refine hK _ _ ?_; clear hK K
                  refine wpAnyIn_ready (rs := [4]) (by kernel_rfl) (by simp) ?_
                  refine AllReadyIn.cons rfl (fun K hK => ?_) ?_
                  · skip
                    go_simp
                    refine hK _ _ ?_; clear hK K
                    refine wpAnyIn_ready (rs := [5]) (by kernel_rfl) (by simp) ?_
                    refine AllReadyIn.cons rfl (fun K hK => ?_) ?_
                    · skip
                      go_simp
                      refine hK _ _ ?_; clear hK K
                      refine wpAnyIn_ready (rs := [6]) (by kernel_rfl) (by simp) ?_
                      refine AllReadyIn.cons rfl (fun K hK => ?_) ?_
                      · skip
                        go_simp
                        refine hK _ _ ?_; clear hK K
                        refine wpAnyIn_ready (rs := [7]) (by kernel_rfl) (by simp) ?_
                        refine AllReadyIn.cons rfl (fun K hK => ?_) ?_
                        · skip
                          go_simp
                          refine hK _ _ ?_; clear hK K
                          refine wpAnyIn_ready (rs := [8]) (by kernel_rfl) (by simp) ?_
                          refine AllReadyIn.cons rfl (fun K hK => ?_) ?_
                          · skip
                            go_simp
                            refine hK _ _ ?_; clear hK K
                            refine wpAnyIn_done (by kernel_rfl) ?_ _
                            gi_wp2
                            exact HSET'.out X.drew.drew rfl rfl rfl rfl
                          exact AllReadyIn.nil
                        exact AllReadyIn.nil
                      exact AllReadyIn.nil
                    exact AllReadyIn.nil
                  exact AllReadyIn.nil
                refine AllReadyIn.cons rfl (fun K hK => ?_) ?_
                · skip
                  go_simp
                  refine hK _ _ ?_; clear hK K
                  refine wpAnyIn_ready (rs := [0, 5]) (by kernel_rfl) (by simp) ?_
                  refine AllReadyIn.cons rfl (fun K hK => ?_) ?_
                  · skip
                    go_simp
                    refine hK _ _ ?_; clear hK K
                    refine wpAnyIn_ready (rs := [5]) (by kernel_rfl) (by simp) ?_
                    refine AllReadyIn.cons rfl (fun K hK => ?_) ?_
                    · skip
                      go_simp
                      refine hK _ _ ?_; clear hK K
                      refine wpAnyIn_ready (rs := [6]) (by kernel_rfl) (by simp) ?_
                      refine AllReadyIn.cons rfl (fun K hK => ?_) ?_
                      · skip
                        go_simp
                        refine hK _ _ ?_; clear hK K
                        refine wpAnyIn_ready (rs := [7]) (by kernel_rfl) (by simp) ?_
                        refine AllReadyIn.cons rfl (fun K hK => ?_) ?_
                        · skip
                          go_simp
                          refine hK _ _ ?_; clear hK K
                          refine wpAnyIn_ready (rs := [8]) (by kernel_rfl) (by simp) ?_
                          refine AllReadyIn.cons rfl (fun K hK => ?_) ?_
                          · skip
                            go_simp
                            refine hK _ _ ?_; clear hK K
                            refine wpAnyIn_done (by kernel_rfl) ?_ _
                            gi_wp2
                            exact HSET'.out X.drew.drew rfl rfl rfl rfl
                          exact AllReadyIn.nil
                        exact AllReadyIn.nil
                      exact AllReadyIn.nil
                    exact AllReadyIn.nil
                  refine AllReadyIn.cons rfl (fun K hK => ?_) ?_
                  · skip
                    go_simp
                    refine hK _ _ ?_; clear hK K
                    refine wpAnyIn_ready (rs := [0, 6]) (by kernel_rfl) (by simp) ?_
                    refine AllReadyIn.cons rfl (fun K hK => ?_) ?_
                    · skip
                      go_simp
                      refine hK _ _ ?_; clear hK K
                      refine wpAnyIn_ready (rs := [6]) (by kernel_rfl) (by simp) ?_
                      refine AllReadyIn.cons rfl (fun K hK => ?_) ?_
                      · skip
                        go_simp
                        refine hK _ _ ?_; clear hK K
                        refine wpAnyIn_ready (rs := [7]) (by kernel_rfl) (by simp) ?_
                        refine AllReadyIn.cons rfl (fun K hK => ?_) ?_
                        · skip
                          go_simp
                          refine hK _ _ ?_; clear hK K
                          refine wpAnyIn_ready (rs := [8]) (by kernel_rfl) (by simp) ?_
                          refine AllReadyIn.cons rfl (fun K hK => ?_) ?_
                          · skip
                            go_simp
                            refine hK _ _ ?_; clear hK K
                            refine wpAnyIn_done (by kernel_rfl) ?_ _
                            gi_wp2
                            exact HSET'.out X.drew.drew rfl rfl rfl rfl
                          exact AllReadyIn.nil
                        exact AllReadyIn.nil
                      exact AllReadyIn.nil
                    refine AllReadyIn.cons rfl (fun K hK => ?_) ?_
                    · skip
                      go_simp
                      refine hK _ _ ?_; clear hK K
                      refine wpAnyIn_ready (rs := [0]) (by kernel_rfl) (by simp) ?_
                      refine AllReadyIn.cons rfl (fun K hK => ?_) ?_
                      · skip
                        go_simp
                        refine hK _ _ ?_; clear hK K
                        refine wpAnyIn_ready (rs := [7]) (by kernel_rfl) (by simp) ?_
                        refine AllReadyIn.cons rfl (fun K hK => ?_) ?_
                        · skip
                          go_simp
                          refine hK _ _ ?_; clear hK K
                          refine wpAnyIn_ready (rs := [8]) (by kernel_rfl) (by simp) ?_
                          refine AllReadyIn.cons rfl (fun K hK => ?_) ?_
                          · skip
                            go_simp
                            refine hK _ _ ?_; clear hK K
                            refine wpAnyIn_done (by kernel_rfl) ?_ _
                            gi_wp2
                            exact HSET'.out X.drew.drew rfl rfl rfl rfl
                          exact AllReadyIn.nil
                        exact AllReadyIn.nil
                      exact AllReadyIn.nil
                    exact AllReadyIn.nil
                  exact AllReadyIn.nil
                exact AllReadyIn.nil
              refine AllReadyIn.cons rfl (fun K hK => ?_) ?_
              · skip
                go_simp
                refine hK _ _ ?_; clear hK K
                refine wpAnyIn_ready (rs := [0, 1]) (by kernel_rfl) (by simp) ?_
                refine AllReadyIn.cons rfl (fun K hK => ?_) ?_
                · skip
                  go_simp
                  refine hK _ _ ?_; clear hK K
                  refine wpAnyIn_ready (rs := [1]) (by kernel_rfl) (by simp) ?_
                  refine AllReadyIn.cons rfl (fun K hK => ?_) ?_
                  · skip
                    go_simp
                    refine hK _ _ ?_; clear hK K
                    refine wpAnyIn_ready (rs := [5]) (by kernel_rfl) (by simp) ?_
                    refine AllReadyIn.cons rfl (fun K hK => ?_) ?_
                    · skip
                      go_simp
                      refine hK _ _ ?_; clear hK K
                      refine wpAnyIn_ready (rs := [6]) (by kernel_rfl) (by simp) ?_
                      refine AllReadyIn.cons rfl (fun K hK => ?_) ?_
                      · skip
                        go_simp
                        refine hK _ _ ?_; clear hK K
                        refine wpAnyIn_ready (rs := [7]) (by kernel_rfl) (by simp) ?_
                        refine AllReadyIn.cons rfl (fun K hK => ?_) ?_
                        · skip
                          go_simp
                          refine hK _ _ ?_; clear hK K
                          refine wpAnyIn_ready (rs := [8]) (by kernel_rfl) (by simp) ?_
                          refine AllReadyIn.cons rfl (fun K hK => ?_) ?_
                          · skip
                            go_simp
                            refine hK _ _ ?_; clear hK K
                            refine wpAnyIn_done (by kernel_rfl) ?_ _
                            gi_wp2
                            exact HSET'.out X.drew.drew rfl rfl rfl rfl
                          exact AllReadyIn.nil
                        exact AllReadyIn.nil
                      exact AllReadyIn.nil
                    exact AllReadyIn.nil
                  exact AllReadyIn.nil
                refine AllReadyIn.cons rfl (fun K hK => ?_) ?_
                · skip
                  go_simp
                  refine hK _ _ ?_; clear hK K
                  refine wpAnyIn_ready (rs := [0, 5]) (by kernel_rfl) (by simp) ?_
                  refine AllReadyIn.cons rfl (fun K hK => ?_) ?_
                  · skip
                    go_simp
                    refine hK _ _ ?_; clear hK K
                    refine wpAnyIn_ready (rs := [5]) (by kernel_rfl) (by simp) ?_
                    refine AllReadyIn.cons rfl (fun K hK => ?_) ?_
                    · skip
                      go_simp
                      refine hK _ _ ?_; clear hK K
                      refine wpAnyIn_ready (rs := [6]) (by kernel_rfl) (by simp) ?_
                      refine AllReadyIn.cons rfl (fun K hK => ?_) ?_
                      · skip
                        go_simp
                        refine hK _ _ ?_; clear hK K
                        refine wpAnyIn_ready (rs := [7]) (by kernel_rfl) (by simp) ?_
                        refine AllReadyIn.cons rfl (fun K hK => ?_) ?_
                        · skip
                          go_simp
                          refine hK _ _ ?_; clear hK K
                          refine wpAnyIn_ready (rs := [8]) (by kernel_rfl) (by simp) ?_
                          refine AllReadyIn.cons rfl (fun K hK => ?_) ?_
                          · skip
                            go_simp
                            refine hK _ _ ?_; clear hK K
                            refine wpAnyIn_done (by kernel_rfl) ?_ _
                            gi_wp2
                            exact HSET'.out X.drew.drew rfl rfl rfl rfl
                          exact AllReadyIn.nil
                        exact AllReadyIn.nil
                      exact AllReadyIn.nil
                    exact AllReadyIn.nil
                  refine AllReadyIn.cons rfl (fun K hK => ?_) ?_
                  · skip
                    go_simp
                    refine hK _ _ ?_; clear hK K
                    refine wpAnyIn_ready (rs := [0, 6]) (by kernel_rfl) (by simp) ?_
                    refine AllReadyIn.cons rfl (fun K hK => ?_) ?_
                    · skip
                      go_simp
                      refine hK _ _ ?_; clear hK K
                      refine wpAnyIn_ready (rs := [6]) (by kernel_rfl) (by simp) ?_
                      refine AllReadyIn.cons rfl (fun K hK => ?_) ?_
                      · skip
                        go_simp
                        refine hK _ _ ?_; clear hK K
                        refine wpAnyIn_ready (rs := [7]) (by kernel_rfl) (by simp) ?_
                        refine AllReadyIn.cons rfl (fun K hK => ?_) ?_
                        · skip
                          go_simp
                          refine hK _ _ ?_; clear hK K
                          refine wpAnyIn_ready (rs := [8]) (by kernel_rfl) (by simp) ?_
                          refine AllReadyIn.cons rfl (fun K hK => ?_) ?_
                          · skip
                            go_simp
                            refine hK _ _ ?_; clear hK K
                            refine wpAnyIn_done (by kernel_rfl) ?_ _
                            gi_wp2
                            exact HSET'.out X.drew.drew rfl rfl rfl rfl
                          exact AllReadyIn.nil
                        exact AllReadyIn.nil
                      exact AllReadyIn.nil
                    refine AllReadyIn.cons rfl (fun K hK => ?_) ?_
                    · skip
                      go_simp
                      refine hK _ _ ?_; clear hK K
                      refine wpAnyIn_ready (rs := [0]) (by kernel_rfl) (by simp) ?_
                      refine AllReadyIn.cons rfl (fun K hK => ?_) ?_
                      · skip
                        go_simp
                        refine hK _ _ ?_; clear hK K
                        refine wpAnyIn_ready (rs := [7]) (by kernel_rfl) (by simp) ?_
                        refine AllReadyIn.cons rfl (fun K hK => ?_) ?_
                        · skip
                          go_simp
                          refine hK _ _ ?_; clear hK K
                          refine wpAnyIn_ready (rs := [8]) (by kernel_rfl) (by simp) ?_
                          refine AllReadyIn.cons rfl (fun K hK => ?_) ?_
                          · skip
                            go_simp
                            refine hK _ _ ?_; clear hK K
                            refine wpAnyIn_done (by kernel_rfl) ?_ _
                            gi_wp2
                            exact HSET'.out X.drew.drew rfl rfl rfl rfl
                          exact AllReadyIn.nil
                        exact AllReadyIn.nil
                      exact AllReadyIn.nil
                    exact AllReadyIn.nil
                  exact AllReadyIn.nil
                exact AllReadyIn.nil
              exact AllReadyIn.nil
            exact AllReadyIn.nil
          exact AllReadyIn.nil
      · have hn : nm l1 v = v := if_neg (fun h => hv1 h.2)
        have hg0 : v ≥ 0 := hv0
        have HNN2 := Aside0.mk hn
        clear hn HSET
        gi_wp2
        apply cut_
        · intro key
          refine wpIn_region_any (by kernel_rfl) ?_
          change wpAnyIn _ _ _ _ _ _ _ _ _ (World.drew _)
          refine wpAnyIn_ready (rs := [0]) (by kernel_rfl) (by simp) ?_
          refine AllReadyIn.cons rfl (fun K hK => ?_) ?_
          · skip
            go_simp
            refine hK _ _ ?_; clear hK K
            refine wpAnyIn_ready (rs := [1]) (by kernel_rfl) (by simp) ?_
            refine AllReadyIn.cons rfl (fun K hK => ?_) ?_
            · skip
              go_simp
              refine hK _ _ ?_; clear hK K
              refine wpAnyIn_ready (rs := [2]) (by kernel_rfl) (by simp) ?_
              refine AllReadyIn.cons rfl (fun K hK => ?_) ?_
              · skip
                go_simp
                refine hK _ _ ?_; clear hK K
                refine wpAnyIn_ready (rs := [3]) (by kernel_rfl) (by simp) ?_
                refine AllReadyIn.cons rfl (fun K hK => ?_) ?_
                · skip
                  go_simp
                  refine hK _ _ ?_; clear hK K
                  refine wpAnyIn_ready (rs := [4]) (by kernel_rfl) (by simp) ?_
                  refine AllReadyIn.cons rfl (fun K hK => ?_) ?_
                  · skip
                    go_simp
                    refine hK _ _ ?_; clear hK K
                    refine wpAnyIn_ready (rs := [5, 8]) (by kernel_rfl) (by simp) ?_
                    refine AllReadyIn.cons rfl (fun K hK => ?_) ?_
                    · skip
                      go_simp
                      refine hK _ _ ?_; clear hK K
                      refine wpAnyIn_ready (rs := [6, 8]) (by kernel_rfl) (by simp) ?_
                      refine AllReadyIn.cons rfl (fun K hK => ?_) ?_
                      · skip
                        go_simp
                        refine hK _ _ ?_; clear hK K
                        refine wpAnyIn_ready (rs := [7, 8]) (by kernel_rfl) (by simp) ?_
                        refine AllReadyIn.cons rfl (fun K hK => ?_) ?_
                        · skip
                          go_simp
                          refine hK _ _ ?_; clear hK K
                          refine wpAnyIn_ready (rs := [8]) (by kernel_rfl) (by simp) ?_
                          refine AllReadyIn.cons rfl (fun K hK => ?_) ?_
                          · skip
                            go_simp
                            refine hK _ _ ?_; clear hK K
                            refine wpAnyIn_ready (rs := [9]) (by kernel_rfl) (by simp) ?_
                            refine AllReadyIn.cons rfl (fun K hK => ?_) ?_
                            · skip
                              go_simp
                              refine hK _ _ ?_; clear hK K
                              refine wpAnyIn_ready (rs := [10]) (by kernel_rfl) (by simp) ?_
                              refine AllReadyIn.cons rfl (fun K hK => ?_) ?_
                              · skip
                                go_simp
                                refine hK _ _ ?_; clear hK K
                                refine wpAnyIn_ready (rs := [11]) (by kernel_rfl) (by simp) ?_
                                refine AllReadyIn.cons rfl (fun K hK => ?_) ?_
                                · skip
                                  go_simp
                                  refine hK _ _ ?_; clear hK K
                                  refine wpAnyIn_done (by kernel_rfl) ?_ _
                                  exact key
                                exact AllReadyIn.nil
                              exact AllReadyIn.nil
                            exact AllReadyIn.nil
                          exact AllReadyIn.nil
                        refine AllReadyIn.cons rfl (fun K hK => ?_) ?_
                        · skip
                          go_simp
                          refine hK _ _ ?_; clear hK K
                          refine wpAnyIn_ready (rs := [7, 9]) (by kernel_rfl) (by simp) ?_
                          refine AllReadyIn.cons rfl (fun K hK => ?_) ?_
                          · skip
                            go_simp
                            refine hK _ _ ?_; clear hK K
                            refine wpAnyIn_ready (rs := [9]) (by kernel_rfl) (by simp) ?_
                            refine AllReadyIn.cons rfl (fun K hK => ?_) ?_
                            · skip
                              go_simp
                              refine hK _ _ ?_; clear hK K
                              refine wpAnyIn_ready (rs := [10]) (by kernel_rfl) (by simp) ?_
                              refine AllReadyIn.cons rfl (fun K hK => ?_) ?_
                              · skip
                                go_simp
                                refine hK _ _ ?_; clear hK K
                                refine wpAnyIn_ready (rs := [11]) (by kernel_rfl) (by simp) ?_
                                refine AllReadyIn.cons rfl (fun K hK => ?_) ?_
                                · skip
                                  go_simp
                                  refine hK _ _ ?_; clear hK K
                                  refine wpAnyIn_done (by kernel_rfl) ?_ _
                                  exact key
                                exact AllReadyIn.nil
                              exact AllReadyIn.nil
                            exact AllReadyIn.nil
                          refine AllReadyIn.cons rfl (fun K hK => ?_) ?_
                          · skip
                            go_simp
                            refine hK _ _ ?_; clear hK K
                            refine wpAnyIn_ready (rs := [7]) (by kernel_rfl) (by simp) ?_
                            refine AllReadyIn.cons rfl (fun K hK => ?_) ?_
                            · skip
                              go_simp
                              refine hK _ _ ?_; clear hK K
                              refine wpAnyIn_ready (rs := [10]) (by kernel_rfl) (by simp) ?_
                              refine AllReadyIn.cons rfl (fun K hK => ?_) ?_
                              · skip
                                go_simp
                                refine hK _ _ ?_; clear hK K
                                refine wpAnyIn_ready (rs := [11]) (by kernel_rfl) (by simp) ?_
                                refine AllReadyIn.cons rfl (fun K hK => ?_) ?_
                                · skip
                                  go_simp
                                  refine hK _ _ ?_; clear hK K
                                  refine wpAnyIn_done (by kernel_rfl) ?_ _
                                  exact key
                                exact AllReadyIn.nil
                              exact AllReadyIn.nil
                            exact AllReadyIn.nil
                          exact AllReadyIn.nil
                        exact AllReadyIn.nil
                      refine AllReadyIn.cons rfl (fun K hK => ?_) ?_
                      · skip
                        go_simp
                        refine hK _ _ ?_; clear hK K
                        refine wpAnyIn_ready (rs := [6, 9]) (by kernel_rfl) (by simp) ?_
                        refine AllReadyIn.cons rfl (fun K hK => ?_) ?_
                        · skip
                          go_simp
                          refine hK _ _ ?_; clear hK K
                          refine wpAnyIn_ready (rs := [7, 9]) (by kernel_rfl) (by simp) ?_
                          refine AllReadyIn.cons rfl (fun K hK => ?_) ?_
                          · skip
                            go_simp
                            refine hK _ _ ?_; clear hK K
                            refine wpAnyIn_ready (rs := [9]) (by kernel_rfl) (by simp) ?_
                            refine AllReadyIn.cons rfl (fun K hK => ?_) ?_
                            · skip
                              go_simp
                              refine hK _ _ ?_; clear hK K
                              refine wpAnyIn_ready (rs := [10]) (by kernel_rfl) (by simp) ?_
                              refine AllReadyIn.cons rfl (fun K hK => ?_) ?_
                              · skip
                                go_simp
                                refine hK _ _ ?_; clear hK K
                                refine wpAnyIn_ready (rs := [11]) (by kernel_rfl) (by simp) ?_
                                refine AllReadyIn.cons rfl (fun K hK => ?_) ?_
                                · skip
                                  go_simp
                                  refine hK _ _ ?_; clear hK K
                                  refine wpAnyIn_done (by kernel_rfl) ?_ _
                                  exact key
                                exact AllReadyIn.nil
                              exact AllReadyIn.nil
                            exact AllReadyIn.nil
                          refine AllReadyIn.cons rfl (fun K hK => ?_) ?_
                          · skip
                            go_simp
                            refine hK _ _ ?_; clear hK K
                            refine wpAnyIn_ready (rs := [7]) (by kernel_rfl) (by simp) ?_
                            refine AllReadyIn.cons rfl (fun K hK => ?_) ?_
                            · skip
                              go_simp
                              refine hK _ _ ?_; clear hK K
                              refine wpAnyIn_ready (rs := [10]) (by kernel_rfl) (by simp) ?_
                              refine AllReadyIn.cons rfl (fun K hK => ?_) ?_
                              · skip
                                go_simp
                                refine hK _ _ ?_; clear hK K
                                refine wpAnyIn_ready (rs := [11]) (by kernel_rfl) (by simp) ?_
                                refine AllReadyIn.cons rfl (fun K hK => ?_) ?_
                                · skip
                                  go_simp
                                  refine hK _ _ ?_; clear hK K
                                  refine wpAnyIn_done (by kernel_rfl) ?_ _
                                  exact key
                                exact AllReadyIn.nil
                              exact AllReadyIn.nil
                            exact AllReadyIn.nil
                          exact AllReadyIn.nil
                        refine AllReadyIn.cons rfl (fun K hK => ?_) ?_
                        · skip
                          go_simp
                          refine hK _ _ ?_; clear hK K
                          refine wpAnyIn_ready (rs := [6]) (by kernel_rfl) (by simp) ?_
                          refine AllReadyIn.cons rfl (fun K hK => ?_) ?_
                          · skip
                            go_simp
                            refine hK _ _ ?_; clear hK K
                            refine wpAnyIn_ready (rs := [7]) (by kernel_rfl) (by simp) ?_
                            refine AllReadyIn.cons rfl (fun K hK => ?_) ?_
                            · skip
                              go_simp
                              refine hK _ _ ?_; clear hK K
                              refine wpAnyIn_ready (rs := [10]) (by kernel_rfl) (by simp) ?_
                              refine AllReadyIn.cons rfl (fun K hK => ?_) ?_
                              · skip
                                go_simp
                                refine hK _ _ ?_; clear hK K
                                refine wpAnyIn_ready (rs := [11]) (by kernel_rfl) (by simp) ?_
                                refine AllReadyIn.cons rfl (fun K hK => ?_) ?_
                                · skip
                                  go_simp
                                  refine hK _ _ ?_; clear hK K
                                  refine wpAnyIn_done (by kernel_rfl) ?_ _
                                  exact key
                                exact AllReadyIn.nil
                              exact AllReadyIn.nil
                            exact AllReadyIn.nil
                          exact AllReadyIn.nil
                        exact AllReadyIn.nil
                      exact AllReadyIn.nil
                    refine AllReadyIn.cons rfl (fun K hK => ?_) ?_
                    · skip
                      go_simp
                      refine hK _ _ ?_; clear hK K
                      refine wpAnyIn_ready (rs := [5, 9]) (by kernel_rfl) (by simp) ?_
                      refine AllReadyIn.cons rfl (fun K hK => ?_) ?_
                      · skip
                        go_simp
                        refine hK _ _ ?_; clear hK K
                        refine wpAnyIn_ready (rs := [6, 9]) (by kernel_rfl) (by simp) ?_
                        refine AllReadyIn.cons rfl (fun K hK => ?_) ?_
                        · skip
                          go_simp
                          refine hK _ _ ?_; clear hK K
                          refine wpAnyIn_ready (rs := [7, 9]) (by kernel_rfl) (by simp) ?_
                          refine AllReadyIn.cons rfl (fun K hK => ?_) ?_
                          · skip
                            go_simp
                            refine hK _ _ ?_; clear hK K
                            refine wpAnyIn_ready (rs := [9]) (by kernel_rfl) (by simp) ?_
                            refine AllReadyIn.cons rfl (fun K hK => ?_) ?_
                            · skip
                              go_simp
                              refine hK _ _ ?_; clear hK K
                              refine wpAnyIn_ready (rs := [10]) (by kernel_rfl) (by simp) ?_
                              refine AllReadyIn.cons rfl (fun K hK => ?_) ?_
                              · skip
                                go_simp
                                refine hK _ _ ?_; clear hK K
                                refine wpAnyIn_ready (rs := [11]) (by kernel_rfl) (by simp) ?_
                                refine AllReadyIn.cons rfl (fun K hK => ?_) ?_
                                · skip
                                  go_simp
                                  refine hK _ _ ?_; clear hK K
                                  refine wpAnyIn_done (by kernel_rfl) ?_ _
                                  exact key
                                exact AllReadyIn.nil
                              exact AllReadyIn.nil
                            exact AllReadyIn.nil
                          refine AllReadyIn.cons rfl (fun K hK => ?_) ?_
                          · skip
                            go_simp
                            refine hK _ _ ?_; clear hK K
                            refine wpAnyIn_ready (rs := [7]) (by kernel_rfl) (by simp) ?_
                            refine AllReadyIn.cons rfl (fun K hK => ?_) ?_
                            · skip
                              go_simp
                              refine hK _ _ ?_; clear hK K
                              refine wpAnyIn_ready (rs := [10]) (by kernel_rfl) (by simp) ?_
                              refine AllReadyIn.cons rfl (fun K hK => ?_) ?_
                              · skip
                                go_simp
                                refine hK _ _ ?_; clear hK K
                                refine wpAnyIn_ready (rs := [11]) (by kernel_rfl) (by simp) ?_
                                refine AllReadyIn.cons rfl (fun K hK => ?_) ?_
                                · skip
                                  go_simp
                                  refine hK _ _ ?_; clear hK K
                                  refine wpAnyIn_done (by kernel_rfl) ?_ _
                                  exact key
                                exact AllReadyIn.nil
                              exact AllReadyIn.nil
                            exact AllReadyIn.nil
                          exact AllReadyIn.nil
                        refine AllReadyIn.cons rfl (fun K hK => ?_) ?_
                        · skip
                          go_simp
                          refine hK _ _ ?_; clear hK K
                          refine wpAnyIn_ready (rs := [6]) (by kernel_rfl) (by simp) ?_
                          refine AllReadyIn.cons rfl (fun K hK => ?_) ?_
                          · skip
                            go_simp
                            refine hK _ _ ?_; clear hK K
                            refine wpAnyIn_ready (rs := [7]) (by kernel_rfl) (by simp) ?_
                            refine AllReadyIn.cons rfl (fun K hK => ?_) ?_
                            · skip
                              go_simp
                              refine hK _ _ ?_; clear hK K
                              refine wpAnyIn_ready (rs := [10]) (by kernel_rfl) (by simp) ?_
                              refine AllReadyIn.cons rfl (fun K hK => ?_) ?_
                              · skip
                                go_simp
                                refine hK _ _ ?_; clear hK K
                                refine wpAnyIn_ready (rs := [11]) (by kernel_rfl) (by simp) ?_
                                refine AllReadyIn.cons rfl (fun K hK => ?_) ?_
                                · skip
                                  go_simp
                                  refine hK _ _ ?_; clear hK K
                                  refine wpAnyIn_done (by kernel_rfl) ?_ _
                                  exact key
                                exact AllReadyIn.nil
                              exact AllReadyIn.nil
                            exact AllReadyIn.nil
                          exact AllReadyIn.nil
                        exact AllReadyIn.nil
                      refine AllReadyIn.cons rfl (fun K hK => ?_) ?_
                      · skip
                        go_simp
                        refine hK _ _ ?_; clear hK K
                        refine wpAnyIn_ready (rs := [5]) (by kernel_rfl) (by simp) ?_
                        refine AllReadyIn.cons rfl (fun K hK => ?_) ?_
                        · skip
                          go_simp
                          refine hK _ _ ?_; clear hK K
                          refine wpAnyIn_ready (rs := [6]) (by kernel_rfl) (by simp) ?_
                          refine AllReadyIn.cons rfl (fun K hK => ?_) ?_
                          · skip
                            go_simp
                            refine hK _ _ ?_; clear hK K
                            refine wpAnyIn_ready (rs := [7]) (by kernel_rfl) (by simp) ?_
                            refine AllReadyIn.cons rfl (fun K hK => ?_) ?_
                            · skip
                              go_simp
                              refine hK _ _ ?_; clear hK K
                              refine wpAnyIn_ready (rs := [10]) (by kernel_rfl) (by simp) ?_
                              refine AllReadyIn.cons rfl (fun K hK => ?_) ?_
                              · skip
                                go_simp
                                refine hK _ _ ?_; clear hK K
                                refine wpAnyIn_ready (rs := [11]) (by kernel_rfl) (by simp) ?_
                                refine AllReadyIn.cons rfl (fun K hK => ?_) ?_
                                · skip
                                  go_simp
                                  refine hK _ _ ?_; clear hK K
                                  refine wpAnyIn_done (by kernel_rfl) ?_ _
                                  exact key
                                exact AllReadyIn.nil
                              exact AllReadyIn.nil
                            exact AllReadyIn.nil
                          exact AllReadyIn.nil
                        exact AllReadyIn.nil
                      exact AllReadyIn.nil
                    exact AllReadyIn.nil
                  exact AllReadyIn.nil
                exact AllReadyIn.nil
              exact AllReadyIn.nil
            exact AllReadyIn.nil
          exact AllReadyIn.nil
        · gi_wp2
          exact HNO.out HNN2.out _ rfl rfl rfl rfl
    · have hn : nm l1 v = v := if_neg (fun h => hv0 h.1)
      have hg0 : ¬ v ≥ 0 := hv0
      have hq0 : (0 ≤ v) = False := eq_false hv0
      have HNN2 := Aside0.mk hn
      clear hn HSET
      gi_wp2
      apply cut_
      · intro key
        refine wpIn_region_any (by kernel_rfl) ?_
        change wpAnyIn _ _ _ _ _ _ _ _ _ (World.drew _)
        refine wpAnyIn_ready (rs := [0]) (by kernel_rfl) (by simp) ?_
        refine AllReadyIn.cons rfl (fun K hK => ?_) ?_
        · skip
          go_simp
          refine hK _ _ ?_; clear hK K
          refine wpAnyIn_ready (rs := [1]) (by kernel_rfl) (by simp) ?_
          refine AllReadyIn.cons rfl (fun K hK => ?_) ?_
          · skip
            go_simp
            refine hK _ _ ?_; clear hK K
            refine wpAnyIn_ready (rs := [2]) (by kernel_rfl) (by simp) ?_
            refine AllReadyIn.cons rfl (fun K hK => ?_) ?_
            · skip
              go_simp
              refine hK _ _ ?_; clear hK K
              refine wpAnyIn_ready (rs := [3]) (by kernel_rfl) (by simp) ?_
              refine AllReadyIn.cons rfl (fun K hK => ?_) ?_
              · skip
                go_simp
                refine hK _ _ ?_; clear hK K
                refine wpAnyIn_ready (rs := [4]) (by kernel_rfl) (by simp) ?_
                refine AllReadyIn.cons rfl (fun K hK => ?_) ?_
                · skip
                  go_simp
                  refine hK _ _ ?_; clear hK K
                  refine wpAnyIn_ready (rs := [5, 8]) (by kernel_rfl) (by simp) ?_
                  refine AllReadyIn.cons rfl (fun K hK => ?_) ?_
                  · skip
                    go_simp
                    refine hK _ _ ?_; clear hK K
                    refine wpAnyIn_ready (rs := [6, 8]) (by kernel_rfl) (by simp) ?_
                    refine AllReadyIn.cons rfl (fun K hK => ?_) ?_
                    · skip
                      go_simp
                      refine hK _ _ ?_; clear hK K
                      refine wpAnyIn_ready (rs := [7, 8]) (by kernel_rfl) (by simp) ?_
                      refine AllReadyIn.cons rfl (fun K hK => ?_) ?_
                      · skip
                        go_simp
                        refine hK _ _ ?_; clear hK K
                        refine wpAnyIn_ready (rs := [8]) (by kernel_rfl) (by simp) ?_
                        refine AllReadyIn.cons rfl (fun K hK => ?_) ?_
                        · skip
                          go_simp
                          refine hK _ _ ?_; clear hK K
                          refine wpAnyIn_ready (rs := [9]) (by kernel_rfl) (by simp) ?_
                          refine AllReadyIn.cons rfl (fun K hK => ?_) ?_
                          · skip
                            go_simp
                            refine hK _ _ ?_; clear hK K
                            refine wpAnyIn_ready (rs := [10]) (by kernel_rfl) (by simp) ?_
                            refine AllReadyIn.cons rfl (fun K hK => ?_) ?_
                            · skip
                              go_simp
                              refine hK _ _ ?_; clear hK K
                              refine wpAnyIn_ready (rs := [11]) (by kernel_rfl) (by simp) ?_
                              refine AllReadyIn.cons rfl (fun K hK => ?_) ?_
                              · skip
                                go_simp
                                refine hK _ _ ?_; clear hK K
                                refine wpAnyIn_done (by kernel_rfl) ?_ _
                                exact key
                              exact AllReadyIn.nil
                            exact AllReadyIn.nil
                          exact AllReadyIn.nil
                        exact AllReadyIn.nil
                      refine AllReadyIn.cons rfl (fun K hK => ?_) ?_
                      · skip
                        go_simp
                        refine hK _ _ ?_; clear hK K
                        refine wpAnyIn_ready (rs := [7, 9]) (by kernel_rfl) (by simp) ?_
                        refine AllReadyIn.cons rfl (fun K hK => ?_) ?_
                        · skip
                          go_simp
                          refine hK _ _ ?_; clear hK K
                          refine wpAnyIn_ready (rs := [9]) (by kernel_rfl) (by simp) ?_
                          refine AllReadyIn.cons rfl (fun K hK => ?_) ?_
                          · skip
                            go_simp
                            refine hK _ _ ?_; clear hK K
                            refine wpAnyIn_ready (rs := [10]) (by kernel_rfl) (by simp) ?_
                            refine AllReadyIn.cons rfl (fun K hK => ?_) ?_
                            · skip
                              go_simp
                              refine hK _ _ ?_; clear hK K
                              refine wpAnyIn_ready (rs := [11]) (by kernel_rfl) (by simp) ?_
                              refine AllReadyIn.cons rfl (fun K hK => ?_) ?_
                              · skip
                                go_simp
                                refine hK _ _ ?_; clear hK K
                                refine wpAnyIn_done (by kernel_rfl) ?_ _
                                exact key
                              exact AllReadyIn.nil
                            exact AllReadyIn.nil
                          exact AllReadyIn.nil
                        refine AllReadyIn.cons rfl (fun K hK => ?_) ?_
                        · skip
                          go_simp
                          refine hK _ _ ?_; clear hK K
                          refine wpAnyIn_ready (rs := [7]) (by kernel_rfl) (by simp) ?_
                          refine AllReadyIn.cons rfl (fun K hK => ?_) ?_
                          · skip
                            go_simp
                            refine hK _ _ ?_; clear hK K
                            refine wpAnyIn_ready (rs := [10]) (by kernel_rfl) (by simp) ?_
                            refine AllReadyIn.cons rfl (fun K hK => ?_) ?_
                            · skip
                              go_simp
                              refine hK _ _ ?_; clear hK K
                              refine wpAnyIn_ready (rs := [11]) (by kernel_rfl) (by simp) ?_
                              refine AllReadyIn.cons rfl (fun K hK => ?_) ?_
                              · skip
                                go_simp
                                refine hK _ _ ?_; clear hK K
                                refine wpAnyIn_done (by kernel_rfl) ?_ _
                                exact key
                              exact AllReadyIn.nil
                            exact AllReadyIn.nil
                          exact AllReadyIn.nil
                        exact AllReadyIn.nil
                      exact AllReadyIn.nil
                    refine AllReadyIn.cons rfl (fun K hK => ?_) ?_
                    · skip
                      go_simp
                      refine hK _ _ ?_; clear hK K
                      refine wpAnyIn_ready (rs := [6, 9]) (by kernel_rfl) (by simp) ?_
                      refine AllReadyIn.cons rfl (fun K hK => ?_) ?_
                      · skip
                        go_simp
                        refine hK _ _ ?_; clear hK K
                        refine wpAnyIn_ready (rs := [7, 9]) (by kernel_rfl) (by simp) ?_
                        refine AllReadyIn.cons rfl (fun K hK => ?_) ?_
                        · skip
                          go_simp
                          refine hK _ _ ?_; clear hK K
                          refine wpAnyIn_ready (rs := [9]) (by kernel_rfl) (by simp) ?_
                          refine AllReadyIn.cons rfl (fun K hK => ?_) ?_
                          · skip
                            go_simp
                            refine hK _ _ ?_; clear hK K
                            refine wpAnyIn_ready (rs := [10]) (by kernel_rfl) (by simp) ?_
                            refine AllReadyIn.cons rfl (fun K hK => ?_) ?_
                            · skip
                              go_simp
                              refine hK _ _ ?_; clear hK K
                              refine wpAnyIn_ready (rs := [11]) (by kernel_rfl) (by simp) ?_
                              refine AllReadyIn.cons rfl (fun K hK => ?_) ?_
                              · skip
                                go_simp
                                refine hK _ _ ?_; clear hK K
                                refine wpAnyIn_done (by kernel_rfl) ?_ _
                                exact key
                              exact AllReadyIn.nil
                            exact AllReadyIn.nil
                          exact AllReadyIn.nil
                        refine AllReadyIn.cons rfl (fun K hK => ?_) ?_
                        · skip
                          go_simp
                          refine hK _ _ ?_; clear hK K
                          refine wpAnyIn_ready (rs := [7]) (by kernel_rfl) (by simp) ?_
                          refine AllReadyIn.cons rfl (fun K hK => ?_) ?_
                          · skip
                            go_simp
                            refine hK _ _ ?_; clear hK K
                            refine wpAnyIn_ready (rs := [10]) (by kernel_rfl) (by simp) ?_
                            refine AllReadyIn.cons rfl (fun K hK => ?_) ?_
                            · skip
                              go_simp
                              refine hK _ _ ?_; clear hK K
                              refine wpAnyIn_ready (rs := [11]) (by kernel_rfl) (by simp) ?_
                              refine AllReadyIn.cons rfl (fun K hK => ?_) ?_
                              · skip
                                go_simp
                                refine hK _ _ ?_; clear hK K
                                refine wpAnyIn_done (by kernel_rfl) ?_ _
                                exact key
                              exact AllReadyIn.nil
                            exact AllReadyIn.nil
                          exact AllReadyIn.nil
                        exact AllReadyIn.nil
                      refine AllReadyIn.cons rfl (fun K hK => ?_) ?_
                      · skip
                        go_simp
                        refine hK _ _ ?_; clear hK K
                        refine wpAnyIn_ready (rs := [6]) (by kernel_rfl) (by simp) ?_
                        refine AllReadyIn.cons rfl (fun K hK => ?_) ?_
                        · skip
                          go_simp
                          refine hK _ _ ?_; clear hK K
                          refine wpAnyIn_ready (rs := [7]) (by kernel_rfl) (by simp) ?_
                          refine AllReadyIn.cons rfl (fun K hK => ?_) ?_
                          · skip
                            go_simp
                            refine hK _ _ ?_; clear hK K
                            refine wpAnyIn_ready (rs := [10]) (by kernel_rfl) (by simp) ?_
                            refine AllReadyIn.cons rfl (fun K hK => ?_) ?_
                            · skip
                              go_simp
                              refine hK _ _ ?_; clear hK K
                              refine wpAnyIn_ready (rs := [11]) (by kernel_rfl) (by simp) ?_
                              refine AllReadyIn.cons rfl (fun K hK => ?_) ?_
                              · skip
                                go_simp
                                refine hK _ _ ?_; clear hK K
                                refine wpAnyIn_done (by kernel_rfl) ?_ _
                                exact key
                              exact AllReadyIn.nil
                            exact AllReadyIn.nil
                          exact AllReadyIn.nil
                        exact AllReadyIn.nil
                      exact AllReadyIn.nil
                    exact AllReadyIn.nil
                  refine AllReadyIn.cons rfl (fun K hK => ?_) ?_
                  · skip
                    go_simp
                    refine hK _ _ ?_; clear hK K
                    refine wpAnyIn_ready (rs := [5, 9]) (by kernel_rfl) (by simp) ?_
                    refine AllReadyIn.cons rfl (fun K hK => ?_) ?_
                    · skip
                      go_simp
                      refine hK _ _ ?_; clear hK K
                      refine wpAnyIn_ready (rs := [6, 9]) (by kernel_rfl) (by simp) ?_
                      refine AllReadyIn.cons rfl (fun K hK => ?_) ?_
                      · skip
                        go_simp
                        refine hK _ _ ?_; clear hK K
                        refine wpAnyIn_ready (rs := [7, 9]) (by kernel_rfl) (by simp) ?_
                        refine AllReadyIn.cons rfl (fun K hK => ?_) ?_
                        · skip
                          go_simp
                          refine hK _ _ ?_; clear hK K
                          refine wpAnyIn_ready (rs := [9]) (by kernel_rfl) (by simp) ?_
                          refine AllReadyIn.cons rfl (fun K hK => ?_) ?_
                          · skip
                            go_simp
                            refine hK _ _ ?_; clear hK K
                            refine wpAnyIn_ready (rs := [10]) (by kernel_rfl) (by simp) ?_
                            refine AllReadyIn.cons rfl (fun K hK => ?_) ?_
                            · skip
                              go_simp
                              refine hK _ _ ?_; clear hK K
                              refine wpAnyIn_ready (rs := [11]) (by kernel_rfl) (by simp) ?_
                              refine AllReadyIn.cons rfl (fun K hK => ?_) ?_
                              · skip
                                go_simp
                                refine hK _ _ ?_; clear hK K
                                refine wpAnyIn_done (by kernel_rfl) ?_ _
                                exact key
                              exact AllReadyIn.nil
                            exact AllReadyIn.nil
                          exact AllReadyIn.nil
                        refine AllReadyIn.cons rfl (fun K hK => ?_) ?_
                        · skip
                          go_simp
                          refine hK _ _ ?_; clear hK K
                          refine wpAnyIn_ready (rs := [7]) (by kernel_rfl) (by simp) ?_
                          refine AllReadyIn.cons rfl (fun K hK => ?_) ?_
                          · skip
                            go_simp
                            refine hK _ _ ?_; clear hK K
                            refine wpAnyIn_ready (rs := [10]) (by kernel_rfl) (by simp) ?_
                            refine AllReadyIn.cons rfl (fun K hK => ?_) ?_
                            · skip
                              go_simp
                              refine hK _ _ ?_; clear hK K
                              refine wpAnyIn_ready (rs := [11]) (by kernel_rfl) (by simp) ?_
                              refine AllReadyIn.cons rfl (fun K hK => ?_) ?_
                              · skip
                                go_simp
                                refine hK _ _ ?_; clear hK K
                                refine wpAnyIn_done (by kernel_rfl) ?_ _
                                exact key
                              exact AllReadyIn.nil
                            exact AllReadyIn.nil
                          exact AllReadyIn.nil
                        exact AllReadyIn.nil
                      refine AllReadyIn.cons rfl (fun K hK => ?_) ?_
                      · skip
                        go_simp
                        refine hK _ _ ?_; clear hK K
                        refine wpAnyIn_ready (rs := [6]) (by kernel_rfl) (by simp) ?_
                        refine AllReadyIn.cons rfl (fun K hK => ?_) ?_
                        · skip
                          go_simp
                          refine hK _ _ ?_; clear hK K
                          refine wpAnyIn_ready (rs := [7]) (by kernel_rfl) (by simp) ?_
                          refine AllReadyIn.cons rfl (fun K hK => ?_) ?_
                          · skip
                            go_simp
                            refine hK _ _ ?_; clear hK K
                            refine wpAnyIn_ready (rs := [10]) (by kernel_rfl) (by simp) ?_
                            refine AllReadyIn.cons rfl (fun K hK => ?_) ?_
                            · skip
                              go_simp
                              refine hK _ _ ?_; clear hK K
                              refine wpAnyIn_ready (rs := [11]) (by kernel_rfl) (by simp) ?_
                              refine AllReadyIn.cons rfl (fun K hK => ?_) ?_
                              · skip
                                go_simp
                                refine hK _ _ ?_; clear hK K
                                refine wpAnyIn_done (by kernel_rfl) ?_ _
                                exact key
                              exact AllReadyIn.nil
                            exact AllReadyIn.nil
                          exact AllReadyIn.nil
                        exact AllReadyIn.nil
                      exact AllReadyIn.nil
                    refine AllReadyIn.cons rfl (fun K hK => ?_) ?_
                    · skip
                      go_simp
                      refine hK _ _ ?_; clear hK K
                      refine wpAnyIn_ready (rs := [5]) (by kernel_rfl) (by simp) ?_
                      refine AllReadyIn.cons rfl (fun K hK => ?_) ?_
                      · skip
                        go_simp
                        refine hK _ _ ?_; clear hK K
                        refine wpAnyIn_ready (rs := [6]) (by kernel_rfl) (by simp) ?_
                        refine AllReadyIn.cons rfl (fun K hK => ?_) ?_
                        · skip
                          go_simp
                          refine hK _ _ ?_; clear hK K
                          refine wpAnyIn_ready (rs := [7]) (by kernel_rfl) (by simp) ?_
                          refine AllReadyIn.cons rfl (fun K hK => ?_) ?_
                          · skip
                            go_simp
                            refine hK _ _ ?_; clear hK K
                            refine wpAnyIn_ready (rs := [10]) (by kernel_rfl) (by simp) ?_
                            refine AllReadyIn.cons rfl (fun K hK => ?_) ?_
                            · skip
                              go_simp
                              refine hK _ _ ?_; clear hK K
                              refine wpAnyIn_ready (rs := [11]) (by kernel_rfl) (by simp) ?_
                              refine AllReadyIn.cons rfl (fun K hK => ?_) ?_
                              · skip
                                go_simp
                                refine hK _ _ ?_; clear hK K
                                refine wpAnyIn_done (by kernel_rfl) ?_ _
                                exact key
                              exact AllReadyIn.nil
                            exact AllReadyIn.nil
                          exact AllReadyIn.nil
                        exact AllReadyIn.nil
                      exact AllReadyIn.nil
                    exact AllReadyIn.nil
                  exact AllReadyIn.nil
                exact AllReadyIn.nil
              exact AllReadyIn.nil
            exact AllReadyIn.nil
          exact AllReadyIn.nil
        exact AllReadyIn.nil
      · gi_wp2
        exact HNO.out HNN2.out _ rfl rfl rfl rfl
  case done =>
    rintro D xs T W hD rfl ⟨hT, hN, hb, hu, hp, ht, hq⟩ hK hkp hTs
    obtain ⟨hob, hrb⟩ := hu.done (by omega)
    have hnw := HNW.out
    have hs1 := HS1.out
    have hn0 := HN0.out
    obtain ⟨y1, hy1⟩ : ∃ y, (if hasF a0_0 65 = true then nm l1 p1 else p1) = y := ⟨_, rfl⟩
    obtain ⟨y2, hy2⟩ : ∃ y, (if hasF a0_0 66 = true then nm l1 p2 else p2) = y := ⟨_, rfl⟩
    obtain ⟨y3, hy3⟩ : ∃ y, (if hasF a0_0 67 = true then nm l1 p3 else p3) = y := ⟨_, rfl⟩
    obtain ⟨y6, hy6⟩ : ∃ y, p6.map (nm l1) = y := ⟨_, rfl⟩
    rw [hy1, hy2, hy3, hy6] at hob HRR
    rw [hy6] at hrb
    have e := HRR.out
    simp only [Prod.mk.injEq] at e
    obtain ⟨rfl, rfl, rfl, rfl, rfl, rfl, rfl, rfl⟩ := e
    have hz := blk_frozen hq
    have hpp := blk_cell hq
    have hqq := blk_cell hob
    have HRO := Aside0.mk hrb
    have HBB := Aside0.mk hb
    have HTS := Aside0.mk hTs
    have HQQ := Aside0.mk hq
    clear hu hp hT ht hob hrb hb hTs hq HRR hy1 hy2 hy3 hy6
    gi_wp2
    obtain ⟨W5, hW5⟩ : ∃ W5, ((((((((W.setCell ⟨w.heap.size + 1 + 1, 0, none⟩ (.int .i64 a0_0)).setCell ⟨w.heap.size + 1 + 1, 1, none⟩ (.int .i64 y1)).setCell ⟨w.heap.size + 1 + 1, 2, none⟩ (.int .i64 y2)).setCell ⟨w.heap.size + 1 + 1, 3, none⟩ (.int .i64 y3)).setCell ⟨w.heap.size + 1 + 1, 4, none⟩ (.int .i64 p4)).setCell ⟨w.heap.size + 1 + 1, 5, none⟩ (.string p5)).setCell ⟨w.heap.size + 1 + 1, 6, none⟩ (.slice A3 y6.length c3)).setCell ⟨w.heap.size + 1 + 1, 7, none⟩ (.bool p7)) = W5 := ⟨_, rfl⟩
    have hne : ∀ (V : World) (i j : Nat) (u : Value), j ≠ w.heap.size + 1 + 1 → (V.setCell ⟨w.heap.size + 1 + 1, i, none⟩ u).heap[j]? = V.heap[j]? := fun V i j u hj => Below.heap_setCell V ⟨w.heap.size + 1 + 1, i, none⟩ u j hj
    have hBs : ∀ (V : World) (i : Nat) (u : Value), Below w.heap.size w V → Below w.heap.size w (V.setCell ⟨w.heap.size + 1 + 1, i, none⟩ u) := fun V i u h => h.setCell (p := ⟨w.heap.size + 1 + 1, i, none⟩) (by show w.heap.size ≤ w.heap.size + 1 + 1; omega) _
    have hk5 : ∀ k, k ≠ w.heap.size + 1 + 1 → W5.heap[k]? = W.heap[k]? := fun k hk => by
      rw [← hW5]
      simp only [hne _ _ _ _ hk]
    have hq5 : W5.heap[w.heap.size + 1 + 1]? = some (.cells #[.int .i64 a0_0, .int .i64 y1, .int .i64 y2, .int .i64 y3, .int .i64 p4, .string p5, .slice A3 y6.length c3, .bool p7] 33 (0, 0)) := by
      have h1 := blk_set (blk_set (blk_set (blk_set (blk_set (blk_set (blk_set (blk_set HQQ.out 0 (.int .i64 a0_0)) 1 (.int .i64 y1)) 2 (.int .i64 y2)) 3 (.int .i64 y3)) 4 (.int .i64 p4)) 5 (.string p5)) 6 (.slice A3 y6.length c3)) 7 (.bool p7)
      rw [hW5] at h1
      rw [h1]; simp
    have hB5 : Below w.heap.size w W5 := by
      rw [← hW5]
      exact hBs _ _ _ (hBs _ _ _ (hBs _ _ _ (hBs _ _ _ (hBs _ _ _ (hBs _ _ _ (hBs _ _ _ (hBs _ _ _ HBB.out)))))))
    have hK5 := (hk5 D (by omega)).trans hK
    rw [hW5]
    clear hW5 hne hBs
    have hR5 := Kd.R_move HRO.out (w1 := W5) (fun k hk => hk5 k (by omega))
    refine ⟨by simp, .inl ⟨_, _, rfl, run_takeDeferred hK5, ?_⟩⟩
    refine ⟨_, results_cell_row rfl _ _ (w.heap.size + 1 + 1) 33 #[.int .i64 a0_0, .int .i64 y1, .int .i64 y2, .int .i64 y3, .int .i64 p4, .string p5, .slice A3 y6.length c3, .bool p7] (0, 0) _ rfl ?_ Tryd.underlying33 rfl (by kernel_rfl), .slice A3 y6.length c3, rfl, ?_, ?_⟩
    · rw [World.putObj_heap_other (by omega)]
      exact hq5
    · exact Kd.R_mono (Kd.R_lower (Kd.R_step hR5 (fun k hk hlt => World.putObj_heap_other (fun e => by omega))) (by omega)) (fun _ _ => trivial)
    · exact hB5.trans (Hold.putObj _ _ _ |>.below_ (fun k hk => by omega))

end Go.Proofs.YtbjdiaefchcbjaaDoor.PKindUses
