/- The edge of each block: by the way up, as the document asks for it. (under way: not built) -/
import Derived.Test.YtemclhndmcjmmaaFullDomEdges
set_option linter.unusedVariables false
set_option linter.unusedSectionVars false
namespace Go.Proofs.Ytemclhndmcjmmaa.BaseDomEdges
open Go Go.RowKit Go.Proofs.YtemclhndmcjmmaaW.PrintWords Go.Proofs.YtemclhndmcjmmaaW.PrintLast Go.Proofs.YtemclhndmcjmmaaW.PrintMore Go.Proofs.Ytemclhndmcjmmaa.PDomEdges
open Go.Proofs.Ytemclhndmcjmmaa.DomTree
theorem few_is (a0 : Int) (fb : List S54) : ∃ m, m ≤ 60 ∧ hallmarklaw08_few.f a0 fb = some (a0, fb.take m) := by
  refine ⟨14, by omega, ?_⟩
  unfold hallmarklaw08_few.f
  by_cases h : (fb.length : Int) > 14
  · rw [if_pos h, if_pos (by omega)]
  · rw [if_neg h, List.take_of_length_le (by omega)]
theorem ahA_l0 (a0 : Int) (fb : List S54) (hN : fb.length ≤ 60) (i : Nat) : ∀ (d p : Nat), d + p = fb.length → Ev (fun k => hallmarkref07_Ahead.l0 k (i : Int) (ah fb i p) (p : Int) a0 fb) (ah fb i fb.length) := by
  intro d
  induction d with
  | zero =>
    intro p hd
    have e : p = fb.length := by omega
    refine ev_step (f := fun _ => some (ah fb i fb.length)) (fun k => ?_) (Ev.now _)
    show hallmarkref07_Ahead.l0 (k + 1) _ _ _ _ _ = _
    rw [hallmarkref07_Ahead.l0, if_neg (by omega), e]
  | succ d ih =>
    intro p hd
    have hl := ah_len fb i p
    have hL := nxS_len (rd_T54 fb (p : Int))
    refine ev_step (f := fun k => (hallmarkref07_Next.f k ((rd_T54 fb (p : Int)).f0) ((rd_T54 fb (p : Int)).f1) ((rd_T54 fb (p : Int)).f2.f0) ((rd_T54 fb (p : Int)).f2.f1) ((rd_T54 fb (p : Int)).f2.f2) ((rd_T54 fb (p : Int)).f2.f3) ((rd_T54 fb (p : Int)).f2.f4) ((rd_T54 fb (p : Int)).f2.f5)).bind fun t191 => ((hallmarkref07_Has.f k t191 (i : Int)).bind fun t194 => (if t194 = true then (hallmarkref07_Ahead.l0 k (i : Int) (ah fb i p ++ [(p : Int)]) ((p + 1 : Nat) : Int) a0 fb) else (hallmarkref07_Ahead.l0 k (i : Int) (ah fb i p) ((p + 1 : Nat) : Int) a0 fb)))) (fun k => ?_)
      (Ev.bind (next_ev _) (Ev.bind (has_ev _ (by omega) _) ?_))
    · show hallmarkref07_Ahead.l0 (k + 1) _ _ _ _ _ = _
      rw [hallmarkref07_Ahead.l0, if_pos (by omega), if_pos (by omega), w_nat p (by omega)]
      refine congrArg _ (funext fun t => congrArg _ (funext fun t2 => ?_))
      rw [if_pos (show (ah fb i p).length < 17592186044416 by omega)]
    · have hi := ih (p + 1) (by omega)
      by_cases e : (i : Int) ∈ nb fb p
      · rw [show ah fb i (p + 1) = ah fb i p ++ [(p : Int)] from by rw [ah, if_pos e]] at hi
        have e2 : decide ((i : Int) ∈ nxS (rd_T54 fb (p : Int))) = true := decide_eq_true e
        exact Ev.congr (fun k => by rw [e2, if_pos rfl]) hi
      · rw [show ah fb i (p + 1) = ah fb i p from by rw [ah, if_neg e, List.append_nil]] at hi
        have e2 : decide ((i : Int) ∈ nxS (rd_T54 fb (p : Int))) = false := decide_eq_false e
        exact Ev.congr (fun k => by rw [e2, if_neg (by decide)]) hi
noncomputable def anyE (fb : List S54) (XS : List Nat) (a b : Nat) : Bool := (ah fb b fb.length).any (fun p => decD fb XS (a : Int) p)
/-- b lies in the edge of a -/
noncomputable def inE (fb : List S54) (XS : List Nat) (a b : Nat) : Bool := decide (a ∈ XS) && (decide (b ∈ XS) && ((decide (a = b) || !decD fb XS (a : Int) (b : Int)) && anyE fb XS a b))
/-- the edge of a, of blocks below b -/
noncomputable def rowE (fb : List S54) (XS : List Nat) (a : Nat) : Nat → List Int
  | 0 => []
  | b + 1 => rowE fb XS a b ++ (if inE fb XS a b = true then [(b : Int)] else [])
theorem rowE_len (fb : List S54) (XS : List Nat) (a : Nat) : ∀ b, (rowE fb XS a b).length ≤ b
  | 0 => Nat.le_refl _
  | b + 1 => by
    have := rowE_len fb XS a b
    unfold rowE
    rw [List.length_append]
    by_cases e : inE fb XS a b = true
    · rw [if_pos e]; show _ + 1 ≤ _; omega
    · rw [if_neg e]; show _ + 0 ≤ _; omega
section
variable {a0 : Int} {fb : List S54} {XS : List Nat} {ab pl : List Int} (F : Full a0 fb XS ab pl) (hN : fb.length ≤ 60)
include F hN
theorem overs (head : Int) : ∀ l : List Int, ∃ K, ∀ k, K ≤ k → ∀ b ∈ l, over_f k ab pl head b = some (decD fb XS head b)
  | [] => ⟨0, fun k _ b hb => by cases hb⟩
  | b :: l => by
    obtain ⟨K1, e1⟩ := overs head l
    obtain ⟨K2, e2⟩ := F.ov head b
    refine ⟨K1 + K2, fun k hk c hc => ?_⟩
    rcases List.mem_cons.1 hc with h | h
    · subst h; exact e2 k (by omega)
    · exact e1 k (by omega) c h
theorem go_ev {AH : List (List Int)} (hy : AH.length = fb.length ∧ ∀ n, n < fb.length → AH.getD n [] = ah fb n fb.length) (a b : Nat) (hb : b < fb.length) (out : List (List Int)) (ho : (rd_L1 out (a : Int)).length ≤ 1000) :
    Ev (fun k => edge_go k ab pl AH a b out) (if anyE fb XS a b = true then out.set a (rd_L1 out (a : Int) ++ [(b : Int)]) else out) := by
  have hrow : rd_L1 AH (b : Int) = ah fb b fb.length := by unfold rd_L1; rw [Int.toNat_natCast]; exact hy.2 b hb
  obtain ⟨K, hK⟩ := overs F hN (a : Int) (ah fb b fb.length)
  refine ⟨K, fun k hk => ?_⟩
  have h1 : allIs (over_f k ab pl (a : Int)) (ah fb b fb.length) = true := List.all_eq_true.2 (fun p hp => by rw [hK k hk p hp]; rfl)
  have h2 : anyIs (over_f k ab pl (a : Int)) (ah fb b fb.length) = anyE fb XS a b := by
    unfold anyIs anyE
    rw [Bool.eq_iff_iff, List.any_eq_true, List.any_eq_true]
    constructor
    · rintro ⟨p, hp, hv⟩
      rw [hK k hk p hp, beq_iff_eq] at hv
      exact ⟨p, hp, Option.some.inj hv⟩
    · rintro ⟨p, hp, hv⟩
      exact ⟨p, hp, by rw [hK k hk p hp, hv]; rfl⟩
  show edge_go k ab pl AH a b out = _
  unfold edge_go
  rw [hrow, if_pos ⟨h1, by rw [hy.1]; exact hb, by omega⟩, h2]
theorem one_ev {AH : List (List Int)} (hy : AH.length = fb.length ∧ ∀ n, n < fb.length → AH.getD n [] = ah fb n fb.length) (a b : Nat) (ha : a < fb.length) (hb : b < fb.length) (out : List (List Int)) (ho : (rd_L1 out (a : Int)).length ≤ 1000) :
    Ev (fun k => edge_one k ab pl AH a b out) (if inE fb XS a b = true then out.set a (rd_L1 out (a : Int) ++ [(b : Int)]) else out) := by
  have pa := F.plv a ha
  have pb := F.plv b hb
  have G := go_ev F hN hy a b hb out ho
  by_cases ca : a ∈ XS
  rotate_left
  · rw [if_neg ca] at pa
    rw [show inE fb XS a b = false from by unfold inE; rw [decide_eq_false ca]; rfl, if_neg (by decide)]
    exact Ev.congr (fun k => by rw [edge_one, if_pos (by omega)]) (Ev.now out)
  rw [if_pos ca] at pa
  by_cases cb : b ∈ XS
  rotate_left
  · rw [if_neg cb] at pb
    rw [show inE fb XS a b = false from by unfold inE; rw [decide_eq_true ca, decide_eq_false cb]; rfl, if_neg (by decide)]
    exact Ev.congr (fun k => by rw [edge_one, if_neg (by omega), if_pos (by omega)]) (Ev.now out)
  rw [if_pos cb] at pb
  by_cases e : a = b
  · rw [show inE fb XS a b = anyE fb XS a b from by unfold inE; rw [decide_eq_true ca, decide_eq_true cb, decide_eq_true e]; simp]
    exact Ev.congr (fun k => by rw [edge_one, if_neg (by omega), if_neg (by omega), if_pos e]) G
  · refine Ev.congr (f := fun k => (over_f k ab pl (a : Int) (b : Int)).bind (fun o => if o = true then some out else edge_go k ab pl AH a b out)) (fun k => by rw [edge_one, if_neg (by omega), if_neg (by omega), if_neg e]) (Ev.bind (F.ov _ _) ?_)
    cases d : decD fb XS (a : Int) (b : Int) with
    | true =>
      rw [show inE fb XS a b = false from by unfold inE; rw [decide_eq_true ca, decide_eq_true cb, decide_eq_false e, d]; rfl, if_neg (by decide)]
      exact Ev.congr (fun k => by rw [if_pos rfl]) (Ev.now out)
    | false =>
      rw [show inE fb XS a b = anyE fb XS a b from by unfold inE; rw [decide_eq_true ca, decide_eq_true cb, d]; simp]
      exact Ev.congr (fun k => by rw [if_neg (by decide)]) G
omit F hN in
theorem rdL_set (l : List (List Int)) (i n : Nat) (v : List Int) (hi : i < l.length) : rd_L1 (l.set i v) (n : Int) = if n = i then v else rd_L1 l (n : Int) := by
  unfold rd_L1
  rw [Int.toNat_natCast]
  by_cases h : n = i
  · subst h; rw [if_pos rfl, List.getD_eq_getElem?_getD, List.getElem?_set_self hi]; rfl
  · rw [if_neg h, List.getD_eq_getElem?_getD, List.getElem?_set_ne (fun e => h e.symm), ← List.getD_eq_getElem?_getD]
theorem b_ev {AH : List (List Int)} (hy : AH.length = fb.length ∧ ∀ n, n < fb.length → AH.getD n [] = ah fb n fb.length) (a : Nat) (ha : a < fb.length) : ∀ (d b : Nat) (out : List (List Int)), d + b = fb.length → out.length = fb.length → rd_L1 out (a : Int) = rowE fb XS a b →
    ∃ out', Ev (fun k => edge_b k ab pl AH a d b out) out' ∧ out'.length = fb.length ∧ rd_L1 out' (a : Int) = rowE fb XS a fb.length ∧ ∀ n : Nat, n ≠ a → rd_L1 out' (n : Int) = rd_L1 out (n : Int) := by
  intro d
  induction d with
  | zero =>
    intro b out hd hl hr
    exact ⟨out, Ev.congr (fun k => by rw [edge_b]) (Ev.now out), hl, by rw [hr, show b = fb.length by omega], fun n _ => rfl⟩
  | succ d ih =>
    intro b out hd hl hr
    have hrl := rowE_len fb XS a b
    have O := one_ev F hN hy a b ha (by omega) out (by rw [hr]; omega)
    obtain ⟨out', h1, h2, h3, h4⟩ := ih (b + 1) (if inE fb XS a b = true then out.set a (rd_L1 out (a : Int) ++ [(b : Int)]) else out) (by omega) (by split <;> simp [hl]) (by
      by_cases e : inE fb XS a b = true
      · rw [if_pos e, rdL_set _ _ _ _ (by omega), if_pos rfl, hr, rowE, if_pos e]
      · rw [if_neg e, hr, rowE, if_neg e, List.append_nil])
    refine ⟨out', Ev.congr (f := fun k => (edge_one k ab pl AH a b out).bind (fun o => edge_b k ab pl AH a d (b + 1) o)) (fun k => by rw [edge_b]) (Ev.bind O h1), h2, h3, fun n hn => ?_⟩
    rw [h4 n hn]
    by_cases e : inE fb XS a b = true
    · rw [if_pos e, rdL_set _ _ _ _ (by omega), if_neg hn]
    · rw [if_neg e]
theorem a_ev {AH : List (List Int)} (hy : AH.length = fb.length ∧ ∀ n, n < fb.length → AH.getD n [] = ah fb n fb.length) : ∀ (d a : Nat) (out : List (List Int)), d + a = fb.length → out.length = fb.length → (∀ n : Nat, n < a → rd_L1 out (n : Int) = rowE fb XS n fb.length) → (∀ n : Nat, a ≤ n → n < fb.length → rd_L1 out (n : Int) = []) →
    ∃ out', Ev (fun k => edge_a k ab pl AH fb.length d a out) out' ∧ out'.length = fb.length ∧ ∀ n : Nat, n < fb.length → rd_L1 out' (n : Int) = rowE fb XS n fb.length := by
  intro d
  induction d with
  | zero =>
    intro a out hd hl h1 h2
    exact ⟨out, Ev.congr (fun k => by rw [edge_a]) (Ev.now out), hl, fun n hn => h1 n (by omega)⟩
  | succ d ih =>
    intro a out hd hl h1 h2
    obtain ⟨o, e1, e2, e3, e4⟩ := b_ev F hN hy a (by omega) fb.length 0 out rfl hl (h2 a (Nat.le_refl _) (by omega))
    obtain ⟨out', f1, f2, f3⟩ := ih (a + 1) o (by omega) e2 (fun n hn => by
      by_cases e : n = a
      · subst e; exact e3
      · rw [e4 n e]; exact h1 n (by omega)) (fun n hn hn2 => by rw [e4 n (by omega)]; exact h2 n (by omega) hn2)
    exact ⟨out', Ev.congr (f := fun k => (edge_b k ab pl AH a fb.length 0 out).bind (fun o => edge_a k ab pl AH fb.length d (a + 1) o)) (fun k => by rw [edge_a]) (Ev.bind e1 f1), f2, f3⟩
theorem edge_ev : ∃ out : List (List Int), out.length = fb.length ∧ (∀ n : Nat, n < fb.length → rd_L1 out (n : Int) = rowE fb XS n fb.length) ∧ Ev (fun k => dom_Edge.f k a0 fb) out := by
  obtain ⟨AH, hy, K1, e1⟩ := ahead_ev a0 fb hN
  obtain ⟨out, ⟨K2, e2⟩, h2, h3⟩ := a_ev F hN hy fb.length 0 (List.replicate fb.length []) rfl List.length_replicate (fun n hn => by omega) (fun n _ hn => by
    unfold rd_L1
    rw [Int.toNat_natCast, List.getD_eq_getElem?_getD, List.getElem?_replicate]; split <;> rfl)
  obtain ⟨K3, e3⟩ := F.gr
  refine ⟨out, h2, h3, K1 + K2 + K3, fun k hk => ?_⟩
  dsimp only at e1 e2 e3
  show dom_Edge.f k a0 fb = _
  unfold dom_Edge.f
  rw [e3 k (by omega), Option.bind_some, e1 k (by omega), Option.bind_some, if_pos ⟨by omega, hy.1⟩]
  exact e2 k (by omega)
/-! ### The document's way -/
theorem r_l1 (a b : Nat) (L acc : List Int) (hal : acc.length ≤ 100) (row : List Int) (v : Bool) (r : List Int)
    (K : Ev (fun k => hallmarkref08_Edge.l0 k (a : Int) (if v = true then acc ++ [(b : Int)] else acc) L (wrap64 ((b : Int) + 1)) a0 fb) r) :
    ∀ (d j : Nat) (f : Bool), d + j = row.length → (hrl : row.length ≤ 60) → (v = true ↔ f = true ∨ ∃ p ∈ row.drop j, decD fb XS (a : Int) p = true) → Ev (fun k => hallmarkref08_Edge.l1 k (a : Int) acc L (b : Int) row f (j : Int) a0 fb) r := by
  intro d
  induction d with
  | zero =>
    intro j f hd hrl hv
    have e : row.drop j = [] := List.drop_eq_nil_of_le (by omega)
    have ev : v = f := by
      rw [Bool.eq_iff_iff, hv, e]; exact ⟨fun h => h.elim id (fun h => by obtain ⟨b, hb, _⟩ := h; cases hb), Or.inl⟩
    rw [ev] at K
    cases f with
    | true =>
      rw [if_pos rfl] at K
      refine ev_step (fun k => ?_) K
      show hallmarkref08_Edge.l1 (k + 1) _ _ _ _ _ _ _ _ _ = _
      rw [hallmarkref08_Edge.l1, if_neg (by omega), if_pos rfl, if_pos (by omega)]
    | false =>
      rw [if_neg (by decide)] at K
      refine ev_step (fun k => ?_) K
      show hallmarkref08_Edge.l1 (k + 1) _ _ _ _ _ _ _ _ _ = _
      rw [hallmarkref08_Edge.l1, if_neg (by omega), if_neg (by decide)]
  | succ d ih =>
    intro j f hd hrl hv
    have hj : j < row.length := by omega
    have hdrop : row.drop j = rd row (j : Int) :: row.drop (j + 1) := by rw [rd_nat row j hj]; exact List.drop_eq_getElem_cons hj
    rw [hdrop] at hv
    cases f with
    | true =>
      refine ev_step (f := fun k => hallmarkref08_Edge.l1 k (a : Int) acc L (b : Int) row true ((j + 1 : Nat) : Int) a0 fb) (fun k => ?_) (ih (j + 1) true (by omega) hrl ⟨fun _ => .inl rfl, fun _ => hv.2 (.inl rfl)⟩)
      show hallmarkref08_Edge.l1 (k + 1) _ _ _ _ _ _ _ _ _ = _
      rw [hallmarkref08_Edge.l1, if_pos (by omega), if_pos rfl, w_nat j (by omega)]
    | false =>
      refine ev_step (f := fun k => (hallmarkref08_Over.f k a0 fb (a : Int) (rd row (j : Int))).bind fun t237 => hallmarkref08_Edge.l1 k (a : Int) acc L (b : Int) row t237 ((j + 1 : Nat) : Int) a0 fb) (fun k => ?_) (Ev.bind (F.ref hN _ _) (ih (j + 1) _ (by omega) hrl ?_))
      · show hallmarkref08_Edge.l1 (k + 1) _ _ _ _ _ _ _ _ _ = _
        rw [hallmarkref08_Edge.l1, if_pos (by omega), if_neg (by decide), if_pos (by omega), w_nat j (by omega)]
      · rw [hv]
        constructor
        · rintro (h | ⟨p, hp, hm⟩)
          · cases h
          · rcases List.mem_cons.1 hp with e | e
            · exact .inl (by rw [← e]; exact hm)
            · exact .inr ⟨p, e, hm⟩
        · rintro (h | ⟨p, hp, hm⟩)
          · exact .inr ⟨_, List.mem_cons_self, h⟩
          · exact .inr ⟨p, List.mem_cons_of_mem _ hp, hm⟩
theorem r_l0 (a : Nat) (L : List Int) (hLl : L.length ≤ 60) (hL : ∀ x, x ∈ L ↔ 0 ≤ x ∧ x.toNat ∈ XS) : ∀ (d b : Nat), d + b = fb.length → Ev (fun k => hallmarkref08_Edge.l0 k (a : Int) (rowE fb XS a b) L (b : Int) a0 fb) (rowE fb XS a fb.length) := by
  intro d
  induction d with
  | zero =>
    intro b hd
    refine ev_step (f := fun _ => some (rowE fb XS a fb.length)) (fun k => ?_) (Ev.now _)
    show hallmarkref08_Edge.l0 (k + 1) _ _ _ _ _ _ = _
    rw [hallmarkref08_Edge.l0, if_neg (by omega), show b = fb.length by omega]
  | succ d ih =>
    intro b hd
    have hrl := rowE_len fb XS a b
    have I := ih (b + 1) (by omega)
    have hmem : ∀ n : Nat, (n : Int) ∈ L ↔ n ∈ XS := fun n => by rw [hL, Int.toNat_natCast]; exact ⟨fun h => h.2, fun h => ⟨by omega, h⟩⟩
    have hA : Ev (fun k => hallmarkref07_Ahead.f k a0 fb (b : Int)) (ah fb b fb.length) := Ev.congr (f := fun k => hallmarkref07_Ahead.l0 k (b : Int) (ah fb b 0) ((0 : Nat) : Int) a0 fb) (fun k => rfl) (ahA_l0 a0 fb hN b _ 0 rfl)
    have skip : inE fb XS a b = false → Ev (fun k => hallmarkref08_Edge.j1 k (a : Int) (rowE fb XS a b) L (b : Int) true a0 fb) (rowE fb XS a fb.length) := fun e => by
      rw [rowE, e, if_neg (by decide), List.append_nil] at I
      refine ev_step (fun k => ?_) I
      show hallmarkref08_Edge.j1 (k + 1) _ _ _ _ _ _ _ = _
      rw [hallmarkref08_Edge.j1, if_pos rfl, w_nat b (by omega)]
    have go_ : inE fb XS a b = anyE fb XS a b → Ev (fun k => hallmarkref08_Edge.j1 k (a : Int) (rowE fb XS a b) L (b : Int) false a0 fb) (rowE fb XS a fb.length) := fun e => by
      refine ev_step (f := fun k => (hallmarkref07_Ahead.f k a0 fb (b : Int)).bind fun t233 => (hallmarkref08_Edge.l1 k (a : Int) (rowE fb XS a b) L (b : Int) t233 false ((0 : Nat) : Int) a0 fb)) (fun k => ?_) (Ev.bind hA (r_l1 F hN a b L (rowE fb XS a b) (by omega) (ah fb b fb.length) (anyE fb XS a b) _ ?_ _ 0 false rfl (Nat.le_trans (ah_len fb b fb.length) hN) ?_))
      · show hallmarkref08_Edge.j1 (k + 1) _ _ _ _ _ _ _ = _
        rw [hallmarkref08_Edge.j1, if_neg (by decide)]; rfl
      · rw [w_nat b (by omega), ← e]
        rw [rowE] at I
        by_cases c : inE fb XS a b = true
        · rw [if_pos c] at I ⊢; exact I
        · rw [if_neg c, List.append_nil] at I; rw [if_neg c]; exact I
      · unfold anyE
        rw [List.any_eq_true, List.drop_zero]
        exact ⟨fun ⟨p, h1, h2⟩ => .inr ⟨p, h1, h2⟩, fun h => h.elim (fun h => by cases h) id⟩
    refine ev_step (f := fun k => (hallmarkref07_Has.f k L (a : Int)).bind fun t230 => (if t230 = true then ((hallmarkref07_Has.f k L (b : Int)).bind fun t231 => (if t231 = true then (if (a : Int) = (b : Int) then (hallmarkref08_Edge.j1 k (a : Int) (rowE fb XS a b) L (b : Int) false a0 fb) else ((hallmarkref08_Over.f k a0 fb (a : Int) (b : Int)).bind fun t232 => (hallmarkref08_Edge.j1 k (a : Int) (rowE fb XS a b) L (b : Int) t232 a0 fb))) else (hallmarkref08_Edge.j1 k (a : Int) (rowE fb XS a b) L (b : Int) true a0 fb))) else (hallmarkref08_Edge.j1 k (a : Int) (rowE fb XS a b) L (b : Int) true a0 fb))) (fun k => ?_) (Ev.bind (has_ev L (by omega) _) ?_)
    · show hallmarkref08_Edge.l0 (k + 1) _ _ _ _ _ _ = _
      rw [hallmarkref08_Edge.l0, if_pos (by omega)]
    by_cases ca : a ∈ XS
    rotate_left
    · refine Ev.congr (fun k => by rw [decide_eq_false (fun h => ca ((hmem a).1 h)), if_neg (by decide)]) (skip (by unfold inE; rw [decide_eq_false ca]; rfl))
    refine Ev.congr (fun k => by rw [decide_eq_true ((hmem a).2 ca), if_pos rfl]) (Ev.bind (has_ev L (by omega) _) ?_)
    by_cases cb : b ∈ XS
    rotate_left
    · refine Ev.congr (fun k => by rw [decide_eq_false (fun h => cb ((hmem b).1 h)), if_neg (by decide)]) (skip (by unfold inE; rw [decide_eq_true ca, decide_eq_false cb]; rfl))
    refine Ev.congr (fun k => by rw [decide_eq_true ((hmem b).2 cb), if_pos rfl]) ?_
    by_cases e : a = b
    · exact Ev.congr (fun k => by rw [if_pos (by omega)]) (go_ (by unfold inE; rw [decide_eq_true ca, decide_eq_true cb, decide_eq_true e]; simp))
    · refine Ev.congr (fun k => by rw [if_neg (by omega)]) (Ev.bind (F.ref hN _ _) ?_)
      cases dd : decD fb XS (a : Int) (b : Int) with
      | true => exact skip (by unfold inE; rw [decide_eq_true ca, decide_eq_true cb, decide_eq_false e, dd]; rfl)
      | false => exact go_ (by unfold inE; rw [decide_eq_true ca, decide_eq_true cb, dd]; simp)
theorem ref_ev (a : Nat) : Ev (fun k => hallmarkref08_Edge.f k a0 fb (a : Int)) (rowE fb XS a fb.length) := by
  obtain ⟨L, ⟨hLl, hL⟩, hLE⟩ := met_ev a0 fb hN 0 (-1)
  have hLX : ∀ x, x ∈ L ↔ 0 ≤ x ∧ x.toNat ∈ XS := fun x => by
    rw [hL]
    rcases F.ord with ⟨h1, h2⟩ | h
    · subst h1; subst h2
      exact ⟨fun h => absurd h.2.2.1 (by decide), fun h => absurd h.2 (by simp)⟩
    · exact met_first h x
  refine Ev.congr (f := fun k => (hallmarkref08_met.f k a0 fb 0 (-1)).bind fun t227 => (hallmarkref08_Edge.l0 k (a : Int) (rowE fb XS a 0) t227 ((0 : Nat) : Int) a0 fb)) (fun k => ?_) (Ev.bind hLE (r_l0 F hN a L hLl hLX _ 0 rfl))
  show hallmarkref08_Edge.f k a0 fb (a : Int) = _
  unfold hallmarkref08_Edge.f; rfl
theorem law_l0 (out : List (List Int)) (ho : out.length = fb.length) (hr : ∀ n : Nat, n < fb.length → rd_L1 out (n : Int) = rowE fb XS n fb.length) : ∀ (d i : Nat), d + i = fb.length → Ev (fun k => hallmarklaw08_DomEdges.l0 k out (i : Int) a0 fb) true := by
  intro d
  induction d with
  | zero =>
    intro i hd
    refine ev_step (f := fun k => (hallmarklaw08_lives.f k).bind fun t => some t) (fun k => ?_) (Ev.bind lives_ev (Ev.now true))
    show hallmarklaw08_DomEdges.l0 (k + 1) _ _ _ _ = _
    rw [hallmarklaw08_DomEdges.l0, if_neg (by omega)]
  | succ d ih =>
    intro i hd
    have hrl := rowE_len fb XS i fb.length
    refine ev_step (f := fun k => (hallmarkref08_Edge.f k a0 fb (i : Int)).bind fun t251 => ((hallmarkref04_Ints.f k (rowE fb XS i fb.length) t251).bind fun t254 => (if t254 = true then (hallmarklaw08_DomEdges.l0 k out ((i + 1 : Nat) : Int) a0 fb) else (some false)))) (fun k => ?_) (Ev.bind (ref_ev F hN i) (Ev.bind (ints_ev _ (by omega)) (Ev.congr (fun k => by rw [if_pos rfl]) (ih (i + 1) (by omega)))))
    show hallmarklaw08_DomEdges.l0 (k + 1) _ _ _ _ = _
    rw [hallmarklaw08_DomEdges.l0, if_pos (by omega), if_pos (by omega), hr i (by omega), w_nat i (by omega)]
end
end Go.Proofs.Ytemclhndmcjmmaa.BaseDomEdges
namespace Go.Proofs.Ytemclhndmcjmmaa.Pure
open Go Go.RowKit Go.Proofs.YtemclhndmcjmmaaW.PrintWords Go.Proofs.YtemclhndmcjmmaaW.PrintLast Go.Proofs.YtemclhndmcjmmaaW.PrintMore Go.Proofs.Ytemclhndmcjmmaa.PDomEdges Go.Proofs.Ytemclhndmcjmmaa.BaseDomEdges
theorem DomEdges : hallmarklaw08_DomEdges.Pure := by
  intro a0 fb _ _
  obtain ⟨m, hm, hfew⟩ := few_is a0 fb
  have hN : (fb.take m).length ≤ 60 := by rw [List.length_take]; omega
  obtain ⟨XS, ab, pl, F⟩ := full_ev a0 (fb.take m) hN
  obtain ⟨out, ho, hr, hE⟩ := edge_ev F hN
  have key : Ev (fun k => hallmarklaw08_DomEdges.f k a0 fb) true := by
    refine Ev.congr (f := fun k => (dom_Edge.f k a0 (fb.take m)).bind fun t246 => (if (t246.length : Int) = ((fb.take m).length : Int) then (hallmarklaw08_DomEdges.l0 k t246 ((0 : Nat) : Int) a0 (fb.take m)) else (some false))) (fun k => ?_) (Ev.bind hE ?_)
    · show hallmarklaw08_DomEdges.f k a0 fb = _
      unfold hallmarklaw08_DomEdges.f
      rw [hfew, Option.bind_some]; rfl
    · exact Ev.congr (fun k => by rw [if_pos (by rw [ho])]) (law_l0 F hN out ho hr _ 0 rfl)
  exact key.rounds
end Go.Proofs.Ytemclhndmcjmmaa.Pure
