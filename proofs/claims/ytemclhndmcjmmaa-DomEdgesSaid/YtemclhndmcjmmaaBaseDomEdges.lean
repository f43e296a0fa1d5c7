/- Blocks and what follows them: plain words on which the laws of layer 7 and 8 lean. -/
import Derived.Test.YtemclhndmcjmmaaPDomEdgesx
namespace Go.Proofs.Ytemclhndmcjmmaa.BaseDomEdges
open Go Go.RowKit Go.Proofs.YtemclhndmcjmmaaW.PrintWords Go.Proofs.YtemclhndmcjmmaaW.PrintLast Go.Proofs.YtemclhndmcjmmaaW.PrintMore Go.Proofs.Ytemclhndmcjmmaa.PDomEdges

/-- a round that comes to what another does -/
theorem ev_step {α : Type} {g f : Nat → Option α} {r : α} (h : ∀ k, g (k + 1) = f k) (k : Ev f r) : Ev g r := Ev.step h k
theorem ev_eq {α : Type} {g : Nat → Option α} {r r' : α} (h : Ev g r) (e : r = r') : Ev g r' := e ▸ h
/-- it ends, in something of which Q holds -/
def EvP {α : Type} (g : Nat → Option α) (Q : α → Prop) : Prop := ∃ y, Q y ∧ Ev g y
theorem evp_step {α : Type} {g f : Nat → Option α} {Q : α → Prop} (h : ∀ k, g (k + 1) = f k) (k : EvP f Q) : EvP g Q := let ⟨y, hy, he⟩ := k; ⟨y, hy, ev_step h he⟩
theorem evp_now {α : Type} {Q : α → Prop} (r : α) (h : Q r) : EvP (fun _ => some r) Q := ⟨r, h, Ev.now r⟩
theorem evp_bind {α β : Type} {g : Nat → Option α} {f : Nat → α → Option β} {a : α} {Q : β → Prop} (h : Ev g a) (k : EvP (fun n => f n a) Q) : EvP (fun n => (g n).bind (f n)) Q := let ⟨y, hy, he⟩ := k; ⟨y, hy, Ev.bind h he⟩
theorem w_id {x : Int} (h0 : -9223372036854775808 ≤ x) (h1 : x < 9223372036854775808) : wrap64 x = x := by unfold wrap64; omega
theorem w_nat (i : Nat) (h : i < 9223372036854775807) : wrap64 ((i : Int) + 1) = ((i + 1 : Nat) : Int) := by unfold wrap64; omega
theorem rd_nat (l : List Int) (i : Nat) (h : i < l.length) : rd l (i : Int) = l[i] := by unfold rd; simp [h]
theorem rd_getD (l : List Int) (i : Nat) : rd l (i : Int) = l.getD i 0 := by unfold rd; simp

/-- Has tells whether a number is in a list -/
theorem has_l (l : List Int) (hl : l.length ≤ 9223372036854775000) (x : Int) : ∀ (d i : Nat), d + i = l.length → Ev (fun k => hallmarkref07_Has.l0 k l x (i : Int)) (decide (x ∈ l.drop i)) := by
  intro d
  induction d with
  | zero =>
    intro i hd
    refine ev_step (f := fun _ => some (decide (x ∈ l.drop i))) (fun k => ?_) (Ev.now _)
    show hallmarkref07_Has.l0 (k + 1) l x (i : Int) = some (decide (x ∈ l.drop i))
    have e : l.drop i = [] := List.drop_of_length_le (by omega)
    rw [hallmarkref07_Has.l0, if_neg (by omega), e]; rfl
  | succ d ih =>
    intro i hd
    have hi : i < l.length := by omega
    have e : l.drop i = l[i] :: l.drop (i + 1) := List.drop_eq_getElem_cons hi
    have h1 : (i : Int) < (l.length : Int) := by omega
    have h2 : (0 : Int) ≤ (i : Int) := by omega
    have hw := w_nat i (by omega)
    by_cases hx : l[i] = x
    · refine ev_step (f := fun _ => some (decide (x ∈ l.drop i))) (fun k => ?_) (Ev.now _)
      show hallmarkref07_Has.l0 (k + 1) l x (i : Int) = some (decide (x ∈ l.drop i))
      rw [hallmarkref07_Has.l0, if_pos h1, if_pos h2, rd_nat l i hi, if_pos hx, e]
      simp [hx]
    · refine ev_step (f := fun k => hallmarkref07_Has.l0 k l x ((i + 1 : Nat) : Int)) (fun k => ?_) (ev_eq (ih (i + 1) (by omega)) ?_)
      · show hallmarkref07_Has.l0 (k + 1) l x (i : Int) = _
        rw [hallmarkref07_Has.l0, if_pos h1, if_pos h2, rd_nat l i hi, if_neg hx, hw]
      · rw [e]
        refine decide_eq_decide.2 ⟨fun h => List.mem_cons_of_mem _ h, fun h => ?_⟩
        rcases List.mem_cons.1 h with h | h
        · exact absurd h.symm hx
        · exact h
theorem has_ev (l : List Int) (hl : l.length ≤ 9223372036854775000) (x : Int) : Ev (fun k => hallmarkref07_Has.f k l x) (decide (x ∈ l)) := by
  have h := has_l l hl x l.length 0 (by omega)
  rw [List.drop_zero] at h
  exact h
/-- Ints tells whether two lists are one -/
theorem ints_l (l : List Int) (hl : l.length ≤ 9223372036854775000) : ∀ (d i : Nat), d + i = l.length → Ev (fun k => hallmarkref04_Ints.l0 k l l (i : Int)) true := by
  intro d
  induction d with
  | zero =>
    intro i hd
    refine ev_step (f := fun _ => some true) (fun k => ?_) (Ev.now _)
    show hallmarkref04_Ints.l0 (k + 1) l l (i : Int) = some true
    rw [hallmarkref04_Ints.l0, if_neg (by omega)]
  | succ d ih =>
    intro i hd
    refine ev_step (f := fun k => hallmarkref04_Ints.l0 k l l ((i + 1 : Nat) : Int)) (fun k => ?_) (ih (i + 1) (by omega))
    show hallmarkref04_Ints.l0 (k + 1) l l (i : Int) = _
    have h1 : (i : Int) < (l.length : Int) := by omega
    rw [hallmarkref04_Ints.l0, if_pos h1, if_pos (by omega), if_pos h1, if_pos rfl, w_nat i (by omega)]
theorem ints_ev (l : List Int) (hl : l.length ≤ 9223372036854775000) : Ev (fun k => hallmarkref04_Ints.f k l l) true := by
  refine Ev.congr (f := fun k => hallmarkref04_Ints.l0 k l l ((0 : Nat) : Int)) (fun k => ?_) (ints_l l hl l.length 0 (by omega))
  show hallmarkref04_Ints.f k l l = _
  unfold hallmarkref04_Ints.f
  rw [if_pos rfl]; rfl
/-- the blocks that follow -/
def nxS (x : S54) : List Int := if x.f2.f0 = 0 then [x.f2.f2] else if x.f2.f0 = 1 then (if x.f2.f3 = x.f2.f2 then [x.f2.f2] else [x.f2.f2, x.f2.f3]) else []
theorem nbOf_nxS (fb : List S54) (b : Nat) : nbOf fb b = nxS (rd_T54 fb (b : Int)) := rfl
theorem cfg_next_is (x : S54) : cfg_next.f x.f0 x.f1 x.f2.f0 x.f2.f1 x.f2.f2 x.f2.f3 x.f2.f4 x.f2.f5 = some (nxS x) := rfl
theorem nxS_len (x : S54) : (nxS x).length ≤ 2 := by
  unfold nxS
  split
  · simp
  · split
    · split <;> simp
    · simp
theorem next_ev (x : S54) : Ev (fun k => hallmarkref07_Next.f k x.f0 x.f1 x.f2.f0 x.f2.f1 x.f2.f2 x.f2.f3 x.f2.f4 x.f2.f5) (nxS x) := by
  refine Ev.of (fun k => hallmarkref07_Next.mono _ _ _ _ _ _ _ _ k) (k := 8) ?_
  obtain ⟨p, ops, ⟨K, a, tt, els, L, M⟩⟩ := x
  by_cases h0 : K = 0
  · subst h0
    simp [nxS, hallmarkref07_Next.f, hallmarkref07_Targets.f, hallmarkref07_Targets.j0, hallmarkref07_Next.l0, hallmarkref07_Has.f, hallmarkref07_Has.l0, rd_T67, rd, wrap64]
  · by_cases h1 : K = 1
    · subst h1
      by_cases h2 : els = tt
      · subst h2
        simp [nxS, hallmarkref07_Next.f, hallmarkref07_Targets.f, hallmarkref07_Targets.j0, hallmarkref07_Next.l0, hallmarkref07_Has.f, hallmarkref07_Has.l0, rd_T67, rd, wrap64]
      · have h3 : ¬ tt = els := fun e => h2 e.symm
        simp [nxS, hallmarkref07_Next.f, hallmarkref07_Targets.f, hallmarkref07_Targets.j0, hallmarkref07_Next.l0, hallmarkref07_Has.f, hallmarkref07_Has.l0, rd_T67, rd, wrap64, h2, h3]
    · have h2 : (K == 1) = false := by simpa using h1
      simp [nxS, hallmarkref07_Next.f, hallmarkref07_Targets.f, hallmarkref07_Targets.j0, hallmarkref07_Next.l0, hallmarkref07_Has.f, hallmarkref07_Has.l0, rd_T67, rd, wrap64, h0, h1, h2]
theorem lives_ev : Ev (fun k => hallmarklaw08_lives.f k) true := Ev.of (fun k => hallmarklaw08_lives.mono k) (k := 40) (by kernel_rfl)
end Go.Proofs.Ytemclhndmcjmmaa.BaseDomEdges
