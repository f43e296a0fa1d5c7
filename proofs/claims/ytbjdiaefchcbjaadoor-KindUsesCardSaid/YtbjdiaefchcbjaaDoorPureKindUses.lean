import Derived.Test.YtbjdiaefchcbjaaDoorBaseKindUses
namespace Go.Proofs.YtbjdiaefchcbjaaDoor.Pure
open Go Go.RowKit Go.Proofs.YtbjdiaefchcbjaaDoorW.PrintWords Go.Proofs.YtbjdiaefchcbjaaDoorW.PrintLast Go.Proofs.YtbjdiaefchcbjaaDoorW.PrintMore Go.Proofs.YtbjdiaefchcbjaaDoor.PKindUses Go.Proofs.YtbjdiaefchcbjaaDoor.BaseKindUses
set_option maxRecDepth 100000
set_option linter.unusedSimpArgs false
theorem uses_j1 (K a b c n : Int) (s : ByteArray) (l : List Int) (st : Bool) (hl : l.length < 17592186044000) (x : List Int) (hx : x.length ≤ 10) :
    Ev (fun k => hallmarkref04_Uses.j1 k x K a b c n s l st) (x ++ (if hasF K 67 then [c] else []) ++ (if hasF K 76 then l else [])) := by
  refine ev_step (fun k => by rw [hallmarkref04_Uses.j1]) ?_
  refine Ev.bind (has_ev K 4) ?_
  show Ev (fun n => if hasF K 67 = true then _ else _) _
  have h5 := has_ev K 5
  have i1 : x.length < 17592186044416 := by omega
  have i2 : x.length + l.length < 17592186044416 := by omega
  have i3 : (x ++ [c]).length + l.length < 17592186044416 := by rw [List.length_append, List.length_singleton]; omega
  cases hasF K 67
  · simp only [Bool.false_eq_true, if_false, List.append_nil]
    refine Ev.bind h5 ?_
    show Ev (fun n => if hasF K 76 = true then _ else _) _
    cases hasF K 76
    · simp only [Bool.false_eq_true, if_false, List.append_nil]; exact Ev.now _
    · simp only [if_true, if_pos i2]; exact Ev.now _
  · simp only [if_true, if_pos i1, Option.bind_some]
    refine Ev.bind h5 ?_
    show Ev (fun n => if hasF K 76 = true then _ else _) _
    cases hasF K 76
    · simp only [Bool.false_eq_true, if_false, List.append_nil]; exact Ev.now _
    · simp only [if_true, if_pos i3]; exact Ev.now _
theorem uses_j0 (K a b c n : Int) (s : ByteArray) (l : List Int) (st : Bool) (hl : l.length < 17592186044000) (x : List Int) (hx : x.length ≤ 9) :
    Ev (fun k => hallmarkref04_Uses.j0 k x K a b c n s l st) (x ++ (if hasF K 66 then [b] else []) ++ (if hasF K 67 then [c] else []) ++ (if hasF K 76 then l else [])) := by
  refine ev_step (fun k => by rw [hallmarkref04_Uses.j0]) ?_
  refine Ev.bind (has_ev K 3) ?_
  show Ev (fun n => if hasF K 66 = true then _ else _) _
  have i1 : x.length < 17592186044416 := by omega
  cases hasF K 66
  · simp only [Bool.false_eq_true, if_false, List.append_nil]
    exact uses_j1 K a b c n s l st hl x (by omega)
  · simp only [if_true, if_pos i1]
    exact uses_j1 K a b c n s l st hl (x ++ [b]) (by rw [List.length_append, List.length_singleton]; omega)
theorem uses_ev (K a b c n : Int) (s : ByteArray) (l : List Int) (st : Bool) (hl : l.length < 17592186044000) : Ev (fun k => hallmarkref04_Uses.f k K a b c n s l st) (usesL K a b c l) := by
  unfold hallmarkref04_Uses.f usesL
  simp only [Option.bind_some]
  refine Ev.bind (has_ev K 2) ?_
  show Ev (fun n => if hasF K 65 = true then _ else _) _
  have i1 : ([] : List Int).length < 17592186044416 := by simp
  cases hasF K 65
  · simp only [Bool.false_eq_true, if_false]
    exact uses_j0 K a b c n s l st hl [] (by simp)
  · simp only [if_true, if_pos i1]
    exact uses_j0 K a b c n s l st hl [a] (by simp)
theorem usesL_len (K a b c : Int) (l : List Int) : (usesL K a b c l).length ≤ l.length + 3 := by
  unfold usesL
  simp only [List.length_append]
  have e : ∀ (b : Bool) (x : Int), (if b = true then [x] else []).length ≤ 1 := fun b x => by cases b <;> simp
  have := e (hasF K 65) a
  have := e (hasF K 66) b
  have := e (hasF K 67) c
  have : (if hasF K 76 = true then l else []).length ≤ l.length := by split <;> simp
  omega
theorem kren_is (t : List Int) (K a b c n : Int) (s : ByteArray) (l : List Int) (st : Bool) (hl : l.length < 17592186044000) (ht : t.length ≤ 9223372036854775807) :
    kind_Renamed.f K a b c n s l st t = some (K, (if hasF K 65 then nm t a else 0), (if hasF K 66 then nm t b else 0), (if hasF K 67 then nm t c else 0), (if hasF K 78 then n else 0), (if hasF K 83 then s else ByteArray.empty), (if hasF K 76 then l.map (nm t) else []), (if hasF K 75 then st else false)) := by
  unfold kind_Renamed.f
  rw [if_pos ⟨hl, ht⟩]
theorem rren_is (t : List Int) (K a b c n : Int) (s : ByteArray) (l : List Int) (st : Bool) (hl : l.length < 17592186044000) (ht : t.length ≤ 9223372036854775807) :
    hallmarkref04_Renamed.f K a b c n s l st t = some (K, (if hasF K 65 then nm t a else 0), (if hasF K 66 then nm t b else 0), (if hasF K 67 then nm t c else 0), (if hasF K 78 then n else 0), (if hasF K 83 then s else ByteArray.empty), (if hasF K 76 then l.map (nm t) else []), (if hasF K 75 then st else false)) := kren_is t K a b c n s l st hl ht
/-- The numbers below i. -/
def upTo (i : Nat) : List Int := (List.range i).map (fun j : Nat => (j : Int))
theorem upTo_len (i : Nat) : (upTo i).length = i := by simp [upTo]
theorem nm_upTo (i : Nat) (v : Int) : nm (upTo i) v = v := by
  unfold nm
  split
  · rename_i h
    rw [upTo_len] at h
    obtain ⟨n, rfl⟩ : ∃ n : Nat, v = n := ⟨v.toNat, by omega⟩
    have hn : n < i := by omega
    unfold rd upTo
    simp [hn]
  · rfl
theorem map_upTo (i : Nat) (l : List Int) : l.map (nm (upTo i)) = l := by
  have : nm (upTo i) = id := funext (fun v => nm_upTo i v)
  rw [this, List.map_id]
theorem law_l (K a b c n : Int) (s : ByteArray) (l : List Int) (st : Bool) (hl : l.length < 17592186044000) : ∀ (d i : Nat), d + i = 20 → Ev (fun k => hallmarklaw04_KindUses.l0 k (upTo i) (i : Int) K a b c n s l st) true := by
  intro d
  induction d with
  | zero =>
    intro i hd
    obtain rfl : i = 20 := by omega
    have hlp : (if hasF K 76 then l else []).length < 17592186044000 := by split; exact hl; simp
    refine ev_step (fun k => by rw [hallmarklaw04_KindUses.l0, if_neg (by omega)]) ?_
    simp only [own_is K a b c n s l st hl, kren_is (upTo 20) K a b c n s l st hl (by rw [upTo_len]; omega), plain_f K a b c n s l st hl, Option.bind_some, nm_upTo, map_upTo]
    refine Ev.bind (exact_ev _ _ _ _ _ _ _ _ hlp) ?_
    simp only [if_true, hallmarklaw04_lives.f, Option.bind_some]
    exact Ev.now _
  | succ d ih =>
    intro i hd
    refine ev_step (f := fun k => hallmarklaw04_KindUses.l0 k (upTo (i + 1)) ((i + 1 : Nat) : Int) K a b c n s l st) (fun k => ?_) (ih (i + 1) (by omega))
    show hallmarklaw04_KindUses.l0 (k + 1) (upTo i) (i : Int) K a b c n s l st = _
    have h1 : (i : Int) < 20 := by omega
    have h2 : (upTo i).length < 17592186044416 := by rw [upTo_len]; omega
    rw [hallmarklaw04_KindUses.l0, if_pos h1, if_pos h2, w_nat i (by omega)]
    have e : upTo (i + 1) = upTo i ++ [(i : Int)] := by unfold upTo; rw [List.range_succ, List.map_append]; rfl
    rw [e]
theorem law_j0 (K a b c n : Int) (s : ByteArray) (l : List Int) (st : Bool) (hl : l.length < 17592186044000) : Ev (fun k => hallmarklaw04_KindUses.j0 k false K a b c n s l st) true := by
  refine ev_step (fun k => by rw [hallmarklaw04_KindUses.j0]) ?_
  simp only [Bool.false_eq_true, if_false, Option.bind_some]
  exact law_l K a b c n s l st hl 20 0 (by omega)
theorem KindUses : hallmarklaw04_KindUses.Pure := by
  intro K a b c n s l st t _ _ _ _ _ _ hl _ ht
  have hl' : l.length < 17592186044000 := by omega
  have ht' : ([] : List Int).length + t.length < 17592186044416 := by simp; omega
  refine Ev.rounds ?_
  unfold hallmarklaw04_KindUses.f
  have hu : kind_Uses.f K a b c n s l st = some (usesL K a b c l) := by
    unfold kind_Uses.f kind_uses.f
    rw [if_pos hl']; rfl
  simp only [own_is K a b c n s l st hl', hu, Option.bind_some]
  refine Ev.bind (uses_ev K a b c n s l st hl') ?_
  refine Ev.bind (ints_ev _ (by have := usesL_len K a b c l; omega)) ?_
  simp only [if_true, own_is K a b c n s l st hl', Option.bind_some, if_pos ht', List.nil_append, kren_is t K a b c n s l st hl' (by omega), rren_is t K a b c n s l st hl' (by omega)]
  refine Ev.bind (exact_ev _ _ _ _ _ _ _ _ (by split; rw [List.length_map]; exact hl'; simp)) ?_
  exact law_j0 K a b c n s l st hl'
end Go.Proofs.YtbjdiaefchcbjaaDoor.Pure
