/- The loops of a function: by the way up and the steps back, as the document asks for them. -/
import Derived.Test.YtemclhndmcjmmaaFullDomLoops
set_option linter.unusedVariables false
set_option linter.unusedSectionVars false
namespace Go.Proofs.Ytemclhndmcjmmaa.BaseDomLoops
open Go Go.RowKit Go.Proofs.YtemclhndmcjmmaaW.PrintWords Go.Proofs.YtemclhndmcjmmaaW.PrintLast Go.Proofs.YtemclhndmcjmmaaW.PrintMore Go.Proofs.Ytemclhndmcjmmaa.PDomLoops
open Go.Proofs.Ytemclhndmcjmmaa.DomTree
theorem few_is (a0 : Int) (fb : List S54) : ∃ m, m ≤ 60 ∧ hallmarklaw08_few.f a0 fb = some (a0, fb.take m) := by
  refine ⟨14, by omega, ?_⟩
  unfold hallmarklaw08_few.f
  by_cases h : (fb.length : Int) > 14
  · rw [if_pos h, if_pos (by omega)]
  · rw [if_neg h, List.take_of_length_le (by omega)]
theorem ahA_l0 (a0 : Int) (fb : List S54) (hN : fb.length ≤ 60) (i : Nat) : ∀ (d p : Nat), d + p = fb.length → Ev (fun k => hallmarkref07_Ahead.l0 k (i : Int) (ah fb i p) (p : Int) a0 fb) (ah fb i fb.length) := by
  intro d
  induction d with
  | zero =>
    intro p hd
    have e : p = fb.length := by omega
    refine ev_step (f := fun _ => some (ah fb i fb.length)) (fun k => ?_) (Ev.now _)
    show hallmarkref07_Ahead.l0 (k + 1) _ _ _ _ _ = _
    rw [hallmarkref07_Ahead.l0, if_neg (by omega), e]
  | succ d ih =>
    intro p hd
    have hl := ah_len fb i p
    have hL := nxS_len (rd_T54 fb (p : Int))
    refine ev_step (f := fun k => (hallmarkref07_Next.f k ((rd_T54 fb (p : Int)).f0) ((rd_T54 fb (p : Int)).f1) ((rd_T54 fb (p : Int)).f2.f0) ((rd_T54 fb (p : Int)).f2.f1) ((rd_T54 fb (p : Int)).f2.f2) ((rd_T54 fb (p : Int)).f2.f3) ((rd_T54 fb (p : Int)).f2.f4) ((rd_T54 fb (p : Int)).f2.f5)).bind fun t191 => ((hallmarkref07_Has.f k t191 (i : Int)).bind fun t194 => (if t194 = true then (hallmarkref07_Ahead.l0 k (i : Int) (ah fb i p ++ [(p : Int)]) ((p + 1 : Nat) : Int) a0 fb) else (hallmarkref07_Ahead.l0 k (i : Int) (ah fb i p) ((p + 1 : Nat) : Int) a0 fb)))) (fun k => ?_)
      (Ev.bind (next_ev _) (Ev.bind (has_ev _ (by omega) _) ?_))
    · show hallmarkref07_Ahead.l0 (k + 1) _ _ _ _ _ = _
      rw [hallmarkref07_Ahead.l0, if_pos (by omega), if_pos (by omega), w_nat p (by omega)]
      refine congrArg _ (funext fun t => congrArg _ (funext fun t2 => ?_))
      rw [if_pos (show (ah fb i p).length < 17592186044416 by omega)]
    · have hi := ih (p + 1) (by omega)
      by_cases e : (i : Int) ∈ nb fb p
      · rw [show ah fb i (p + 1) = ah fb i p ++ [(p : Int)] from by rw [ah, if_pos e]] at hi
        have e2 : decide ((i : Int) ∈ nxS (rd_T54 fb (p : Int))) = true := decide_eq_true e
        exact Ev.congr (fun k => by rw [e2, if_pos rfl]) hi
      · rw [show ah fb i (p + 1) = ah fb i p from by rw [ah, if_neg e, List.append_nil]] at hi
        have e2 : decide ((i : Int) ∈ nxS (rd_T54 fb (p : Int))) = false := decide_eq_false e
        exact Ev.congr (fun k => by rw [e2, if_neg (by decide)]) hi
/-- x comes to a block of the list, past the head -/
inductive Bk (fb : List S54) (XS : List Nat) (head : Nat) (back : List Int) : Nat → Prop
  | base {b : Nat} (h : (b : Int) ∈ back) (h0 : b ≠ head) (hX : b ∈ XS) : Bk fb XS head back b
  | step {w p : Nat} (h : Bk fb XS head back w) (e : (w : Int) ∈ nbOf fb p) (hX : p ∈ XS) (h0 : p ≠ head) : Bk fb XS head back p
theorem Bk.ne {fb : List S54} {XS : List Nat} {head : Nat} {back : List Int} {x : Nat} (h : Bk fb XS head back x) : x ≠ head := by
  cases h <;> assumption
theorem Bk.mem {fb : List S54} {XS : List Nat} {head : Nat} {back : List Int} {x : Nat} (h : Bk fb XS head back x) : x ∈ XS := by
  cases h <;> assumption
def unm : List Bool → Nat
  | [] => 0
  | x :: l => (if x = false then 1 else 0) + unm l
theorem unm_le : ∀ l, unm l ≤ l.length
  | [] => Nat.le_refl _
  | x :: l => by
    have := unm_le l
    rw [unm, List.length_cons]
    by_cases e : x = false
    · rw [if_pos e]; omega
    · rw [if_neg e]; omega
theorem unm_set : ∀ (l : List Bool) (i : Nat), i < l.length → l.getD i false = false → unm (l.set i true) + 1 = unm l
  | [], i, h, _ => absurd h (by simp)
  | x :: l, 0, _, h => by
    have e : x = false := h
    subst e
    rw [List.set_cons_zero, unm, unm, if_neg (by decide), if_pos rfl]; omega
  | x :: l, i + 1, h, h2 => by
    have := unm_set l i (by simpa using h) (by simpa using h2)
    rw [List.set_cons_succ, unm, unm]; omega
theorem bset (l : List Bool) (i x : Nat) (hi : i < l.length) : (l.set i true).getD x false = if x = i then true else l.getD x false := by
  by_cases h : x = i
  · subst h; rw [if_pos rfl, List.getD_eq_getElem?_getD, List.getElem?_set_self hi]; rfl
  · rw [if_neg h, List.getD_eq_getElem?_getD, List.getElem?_set_ne (fun e => h e.symm), ← List.getD_eq_getElem?_getD]
theorem collect_mem : ∀ (l : List Bool) (i : Nat) (v : Int), v ∈ collect l i → ∃ x : Nat, v = ((i + x : Nat) : Int) ∧ x < l.length ∧ l.getD x false = true
  | [], i, v, h => by cases h
  | y :: l, i, v, h => by
    rw [collect] at h
    have rec_ : v ∈ collect l (i + 1) → ∃ x : Nat, v = ((i + x : Nat) : Int) ∧ x < (y :: l).length ∧ (y :: l).getD x false = true := fun h => by
      obtain ⟨x, h1, h2, h3⟩ := collect_mem l (i + 1) v h
      exact ⟨x + 1, by rw [h1, show i + 1 + x = i + (x + 1) by omega], by simpa using h2, by simpa using h3⟩
    by_cases e : y = true
    · rw [if_pos e] at h
      rcases List.mem_cons.1 h with h | h
      · exact ⟨0, h, by simp, e⟩
      · exact rec_ h
    · rw [if_neg e] at h; exact rec_ h
theorem collect_len : ∀ (l : List Bool) (i : Nat), (collect l i).length ≤ l.length
  | [], i => Nat.le_refl _
  | y :: l, i => by
    have := collect_len l (i + 1)
    rw [collect]
    by_cases e : y = true
    · rw [if_pos e, List.length_cons, List.length_cons]; omega
    · rw [if_neg e, List.length_cons]; omega
section
variable {a0 : Int} {fb : List S54} {XS : List Nat} {ab pl : List Int} (F : Full a0 fb XS ab pl) (hN : fb.length ≤ 60)
include F hN
theorem closed_ : ∀ x ∈ XS, ∀ n ∈ nbOf fb x, 0 ≤ n → n < (fb.length : Int) → n.toNat ∈ XS := by
  rcases F.ord with ⟨h1, h2⟩ | h
  · subst h2; exact fun x hx => absurd hx (by simp)
  · exact h.closed
theorem path_bk {head : Nat} {back : List Int} {x c : Nat} (h : Path (St fb) (fun v => (v : Int) ≠ (head : Int)) x c) (hx : x ∈ XS) (hne : x ≠ head) : c ∈ XS ∧ c ≠ head ∧ (Bk fb XS head back c → Bk fb XS head back x) := by
  induction h with
  | refl => exact ⟨hx, hne, id⟩
  | snoc _ e s ih =>
    refine ⟨?_, fun he => s (by rw [he]), fun hb => ih.2.2 (Bk.step hb e.2.2 ih.1 ih.2.1)⟩
    have := closed_ F hN _ ih.1 _ e.2.2 (by omega) (by have := e.2.1; omega)
    rwa [Int.toNat_natCast] at this
theorem bk_path {head : Nat} {back : List Int} {x : Nat} (h : Bk fb XS head back x) : ∃ b : Nat, (b : Int) ∈ back ∧ Path (St fb) (fun v => (v : Int) ≠ (head : Int)) x b := by
  induction h with
  | base h h0 hX => exact ⟨_, h, .refl⟩
  | step h e hX h0 ih =>
    obtain ⟨b, hb, hp⟩ := ih
    exact ⟨b, hb, (Path.snoc .refl ⟨F.lt _ hX, F.lt _ h.mem, e⟩ (fun he => h.ne (by omega))).trans hp⟩
theorem bk_iff {head : Nat} {back : List Int} {x : Nat} (hx : x ∈ XS) (hne : x ≠ head) : Bk fb XS head back x ↔ ∃ b ∈ back, MetIn fb (x : Int) (head : Int) b := by
  have hxN := F.lt x hx
  constructor
  · intro h
    obtain ⟨b, hb, hp⟩ := bk_path F hN h
    exact ⟨b, hb, by omega, by omega, by omega, by omega, by rw [Int.toNat_natCast, Int.toNat_natCast]; exact hp⟩
  · rintro ⟨b, hb, h0, _, _, _, hp⟩
    rw [Int.toNat_natCast] at hp
    obtain ⟨h1, h2, h3⟩ := path_bk F hN (back := back) hp hx hne
    exact h3 (Bk.base (by rw [Int.toNat_of_nonneg h0]; exact hb) h2 h1)
theorem bk_dom {head : Nat} {back : List Int} (hb : ∀ b ∈ back, decD fb XS (head : Int) b = true) {x : Nat} (h : Bk fb XS head back x) : decD fb XS (head : Int) (x : Int) = true := by
  induction h with
  | base h h0 hX => exact hb _ h
  | step h e hX h0 ih => exact F.edge head _ _ hX (F.lt _ h.mem) e (fun he => h.ne he.symm) ih
theorem b1_ev (head : Nat) : ∀ (l wt : List Int), l.length + wt.length ≤ 1000 → Ev (fun k => body_l1 k ab pl (head : Int) l wt) (wt ++ l.filter (fun b => decD fb XS (head : Int) b))
  | [], wt, _ => by rw [List.filter_nil, List.append_nil]; exact Ev.now wt
  | b :: l, wt, h => by
    rw [List.length_cons] at h
    refine Ev.congr (f := fun k => (over_f k ab pl (head : Int) b).bind (fun o => if o = true then (if wt.length < 1099511627776 then body_l1 k ab pl (head : Int) l (wt ++ [b]) else none) else body_l1 k ab pl (head : Int) l wt)) (fun k => by rw [body_l1]) (Ev.bind (F.ov _ _) ?_)
    cases e : decD fb XS (head : Int) b with
    | true =>
      have := b1_ev head l (wt ++ [b]) (by rw [List.length_append]; show _ + (_ + 1) ≤ _; omega)
      rw [List.filter_cons, e, if_pos rfl]
      rw [List.append_assoc] at this
      exact Ev.congr (fun k => by rw [if_pos rfl, if_pos (by omega)]) this
    | false =>
      rw [List.filter_cons, e, if_neg (by decide)]
      exact Ev.congr (fun k => by rw [if_neg (by decide)]) (b1_ev head l wt (by omega))
/-- while the blocks of a loop are gathered -/
structure WB (fb : List S54) (XS : List Nat) (head : Nat) (back : List Int) (ins : List Bool) (wt : List Int) : Prop where
  len : ins.length = fb.length
  hd : ins.getD head false = true
  snd : ∀ x, ins.getD x false = true → x = head ∨ Bk fb XS head back x
  wts : ∀ w ∈ wt, ∃ x : Nat, w = (x : Int) ∧ x < fb.length ∧ (x ∈ XS → x = head ∨ Bk fb XS head back x)
  bks : ∀ b ∈ back, ins.getD b.toNat false = true ∨ b ∈ wt
  cl : ∀ x, x ≠ head → ins.getD x false = true → ∀ p, p ∈ XS → (x : Int) ∈ nbOf fb p → ins.getD p false = true ∨ (p : Int) ∈ wt
theorem b2_ev {AH : List (List Int)} (hy : AH.length = fb.length ∧ ∀ n, n < fb.length → AH.getD n [] = ah fb n fb.length) (head : Nat) (back : List Int) (hbk : ∀ b ∈ back, 0 ≤ b ∧ b.toNat ∈ XS) : ∀ (m : Nat) (ins : List Bool) (wt : List Int), m ≤ 100000 → unm ins * (fb.length + 1) + wt.length ≤ m → WB fb XS head back ins wt →
    EvP (fun k => body_l2 pl AH k ins wt) (fun r => r.length = fb.length ∧ ∀ x, r.getD x false = true ↔ x = head ∨ Bk fb XS head back x) := by
  intro m
  induction m with
  | zero =>
    intro ins wt _ hm W
    have e : wt = [] := List.length_eq_zero_iff.1 (by omega)
    subst e
    refine evp_step (f := fun _ => some ins) (fun k => ?_) (evp_now ins ⟨W.len, fun x => ⟨W.snd x, fun hx => ?_⟩⟩)
    · show body_l2 pl AH (k + 1) ins [] = _
      rw [body_l2, if_pos rfl]
    · rcases hx with hx | hx
      · subst hx; exact W.hd
      · induction hx with
        | base h h0 hX => exact (W.bks _ h).elim (fun h => by rwa [Int.toNat_natCast] at h) (fun h => by cases h)
        | step h e hX h0 ih => exact (W.cl _ h.ne ih _ hX e).elim id (fun h => by cases h)
  | succ m ih =>
    intro ins wt hmm hm W
    rcases List.eq_nil_or_concat wt with e | ⟨w', w, e⟩
    · subst e
      refine evp_step (f := fun _ => some ins) (fun k => ?_) (evp_now ins ⟨W.len, fun x => ⟨W.snd x, fun hx => ?_⟩⟩)
      · show body_l2 pl AH (k + 1) ins [] = _
        rw [body_l2, if_pos rfl]
      · rcases hx with hx | hx
        · subst hx; exact W.hd
        · induction hx with
          | base h h0 hX => exact (W.bks _ h).elim (fun h => by rwa [Int.toNat_natCast] at h) (fun h => by cases h)
          | step h e hX h0 ih => exact (W.cl _ h.ne ih _ hX e).elim id (fun h => by cases h)
    · rw [List.concat_eq_append] at e
      have hwl : wt.length = w'.length + 1 := by rw [e, List.length_append]; rfl
      obtain ⟨x, hx, hxN, hxb⟩ := W.wts w (by rw [e]; simp)
      subst hx
      have hlast : rd wt ((wt.length : Int) - 1) = (x : Int) := by
        rw [show ((wt.length : Int) - 1) = ((w'.length : Nat) : Int) by omega, rd_getD, e, List.getD_eq_getElem?_getD, List.getElem?_append_right (Nat.le_refl _), Nat.sub_self]; rfl
      have htake : wt.take (wt.length - 1) = w' := by rw [hwl, e, Nat.add_sub_cancel, List.take_left']; rfl
      have hrow : rd_L1 AH (x : Int) = ah fb x fb.length := by unfold rd_L1; rw [Int.toNat_natCast]; exact hy.2 x hxN
      have hrl := ah_len fb x fb.length
      have hne : wt ≠ [] := by rw [e]; simp
      have hrng : 0 ≤ rd wt ((wt.length : Int) - 1) ∧ rd wt ((wt.length : Int) - 1) < (ins.length : Int) ∧ rd wt ((wt.length : Int) - 1) < (pl.length : Int) ∧ rd wt ((wt.length : Int) - 1) < (AH.length : Int) := by
        rw [hlast, W.len, F.pll, hy.1]; omega
      have hins : rdOf false ins (x : Int) = ins.getD x false := by unfold rdOf; rw [Int.toNat_natCast]
      have hpl := F.plv x hxN
      by_cases c : ins.getD x false = false ∧ x ∈ XS
      · have hxh : x ≠ head := fun e => (by rw [e, W.hd] at c; cases c.1)
        have hB : Bk fb XS head back x := (hxb c.2).elim (fun e => absurd e hxh) id
        have hu := unm_set ins x (by rw [W.len]; exact hxN) c.1
        obtain ⟨r, hr, hE⟩ := ih (ins.set x true) (w' ++ ah fb x fb.length) (by omega) (by
          have e2 : unm ins * (fb.length + 1) = unm (ins.set x true) * (fb.length + 1) + (fb.length + 1) := by rw [← hu, Nat.succ_mul]
          rw [List.length_append]; omega) (by
          have gs : ∀ z, (ins.set x true).getD z false = if z = x then true else ins.getD z false := fun z => bset ins x z (by rw [W.len]; exact hxN)
          refine ⟨by rw [List.length_set]; exact W.len, by rw [gs, W.hd]; split <;> rfl, fun z hz => ?_, fun z hz => ?_, fun b hb => ?_, fun z hz1 hz2 p hp hzp => ?_⟩
          · rw [gs] at hz
            by_cases ez : z = x
            · subst ez; exact .inr hB
            · rw [if_neg ez] at hz; exact W.snd z hz
          · rcases List.mem_append.1 hz with hz | hz
            · exact W.wts z (by rw [e]; exact List.mem_append_left _ hz)
            · obtain ⟨q, hq1, hq2, hq3⟩ := (ah_mem fb x fb.length z).1 hz
              refine ⟨q, hq1, hq2, fun hqX => ?_⟩
              by_cases eq : q = head
              · exact .inl eq
              · exact .inr (Bk.step hB hq3 hqX eq)
          · rw [gs]
            rcases W.bks b hb with h | h
            · rw [h]; exact .inl (by split <;> rfl)
            · rw [e] at h
              rcases List.mem_append.1 h with h | h
              · exact .inr (List.mem_append_left _ h)
              · rw [List.mem_singleton] at h
                exact .inl (by rw [if_pos (by rw [h]; rfl)])
          · rw [gs] at hz2
            by_cases ez : z = x
            · subst ez
              exact .inr (List.mem_append_right _ ((ah_mem fb z fb.length _).2 ⟨p, rfl, F.lt p hp, hzp⟩))
            · rw [if_neg ez] at hz2
              rw [gs]
              rcases W.cl z hz1 hz2 p hp hzp with h | h
              · rw [h]; exact .inl (by split <;> rfl)
              · rw [e] at h
                rcases List.mem_append.1 h with h | h
                · exact .inr (List.mem_append_left _ h)
                · rw [List.mem_singleton] at h
                  exact .inl (by rw [if_pos (by omega)]))
        refine ⟨r, hr, ev_step (f := fun k => body_l2 pl AH k (ins.set x true) (w' ++ ah fb x fb.length)) (fun k => ?_) hE⟩
        show body_l2 pl AH (k + 1) ins wt = _
        rw [if_pos c.2] at hpl
        rw [body_l2, if_neg hne, if_pos hrng, hlast, hins, hrow, htake, if_pos ⟨c.1, by rw [hpl]; omega⟩, if_pos (by omega), Int.toNat_natCast]
      · obtain ⟨r, hr, hE⟩ := ih ins w' (by omega) (by omega) (by
          refine ⟨W.len, W.hd, W.snd, fun z hz => W.wts z (by rw [e]; exact List.mem_append_left _ hz), fun b hb => ?_, fun z hz1 hz2 p hp hzp => ?_⟩
          · rcases W.bks b hb with h | h
            · exact .inl h
            · rw [e] at h
              rcases List.mem_append.1 h with h | h
              · exact .inr h
              · rw [List.mem_singleton] at h
                have hbX := (hbk b hb).2
                rw [h, Int.toNat_natCast] at hbX
                cases hv : ins.getD x false with
                | true => exact .inl (by rw [h]; exact hv)
                | false => exact absurd ⟨hv, hbX⟩ c
          · rcases W.cl z hz1 hz2 p hp hzp with h | h
            · exact .inl h
            · rw [e] at h
              rcases List.mem_append.1 h with h | h
              · exact .inr h
              · rw [List.mem_singleton] at h
                have hpx : p = x := by omega
                subst hpx
                cases hv : ins.getD p false with
                | true => exact .inl rfl
                | false => exact absurd ⟨hv, hp⟩ c)
        refine ⟨r, hr, ev_step (f := fun k => body_l2 pl AH k ins w') (fun k => ?_) hE⟩
        show body_l2 pl AH (k + 1) ins wt = _
        have c2 : ¬ (ins.getD x false = false ∧ rd pl (x : Int) ≥ 0) := fun h => by
          by_cases hX : x ∈ XS
          · exact c ⟨h.1, hX⟩
          · rw [if_neg hX] at hpl; have := h.2; omega
        rw [body_l2, if_neg hne, if_pos hrng, hlast, hins, htake, if_neg c2]
/-- the blocks from which a step goes back to the head -/
noncomputable def backs (fb : List S54) (XS : List Nat) (head : Nat) : List Int := (ah fb head fb.length).filter (fun b => decD fb XS (head : Int) b)
theorem body_ev {AH : List (List Int)} (hy : AH.length = fb.length ∧ ∀ n, n < fb.length → AH.getD n [] = ah fb n fb.length) (head : Nat) (hh : head < fb.length) :
    ∃ R : List Bool, R.length = fb.length ∧ (∀ x, R.getD x false = true ↔ x = head ∨ Bk fb XS head (backs fb XS head) x) ∧ Ev (fun k => dom_body.f k fb ab pl AH (head : Int)) (collect R 0) := by
  have hrow : rd_L1 AH (head : Int) = ah fb head fb.length := by unfold rd_L1; rw [Int.toNat_natCast]; exact hy.2 head hh
  have hrl := ah_len fb head fb.length
  have hbk : ∀ b ∈ backs fb XS head, 0 ≤ b ∧ b.toNat ∈ XS := fun b hb => by
    have := (List.mem_filter.1 hb).2
    exact ⟨(decD_mem this).2.1, (decD_mem this).2.2.2⟩
  have hbl : (backs fb XS head).length ≤ fb.length := Nat.le_trans (List.length_filter_le _ _) hrl
  obtain ⟨K1, e1⟩ := b1_ev F hN head (ah fb head fb.length) [] (by show _ + 0 ≤ _; omega)
  have gs : ∀ z, ((List.replicate fb.length false).set head true).getD z false = if z = head then true else false := fun z => by
    rw [bset _ _ _ (by rw [List.length_replicate]; exact hh)]
    congr 1
    rw [List.getD_eq_getElem?_getD, List.getElem?_replicate]; split <;> rfl
  have hunm := unm_le ((List.replicate fb.length false).set head true)
  rw [List.length_set, List.length_replicate] at hunm
  have hmul : unm ((List.replicate fb.length false).set head true) * (fb.length + 1) ≤ 60 * 61 := Nat.mul_le_mul (by omega) (by omega)
  obtain ⟨R, ⟨hR1, hR2⟩, K2, e2⟩ := b2_ev F hN hy head (backs fb XS head) hbk 100000 ((List.replicate fb.length false).set head true) (backs fb XS head) (Nat.le_refl _) (by omega) (by
    refine ⟨by rw [List.length_set, List.length_replicate], by rw [gs, if_pos rfl], fun x hx => ?_, fun w hw => ?_, fun b hb => .inr hb, fun x h1 h2 => ?_⟩
    · rw [gs] at hx
      by_cases ex : x = head
      · exact .inl ex
      · rw [if_neg ex] at hx; cases hx
    · obtain ⟨h1, h2⟩ := hbk w hw
      refine ⟨w.toNat, by omega, F.lt _ h2, fun _ => ?_⟩
      by_cases ex : w.toNat = head
      · exact .inl ex
      · exact .inr (Bk.base (by rw [Int.toNat_of_nonneg h1]; exact hw) ex h2)
    · rw [gs, if_neg h1] at h2; cases h2)
  refine ⟨R, hR1, hR2, K1 + K2, fun k hk => ?_⟩
  dsimp only at e1 e2
  show dom_body.f k fb ab pl AH (head : Int) = _
  unfold dom_body.f
  rw [if_pos ⟨by omega, by omega, by rw [hy.1]; omega, by omega⟩, hrow, e1 k (by omega), Option.bind_some, List.nil_append, Int.toNat_natCast]
  have := e2 k (by omega)
  unfold backs at this
  rw [this]; rfl
theorem overs (head : Int) : ∀ l : List Int, ∃ K, ∀ k, K ≤ k → ∀ b ∈ l, over_f k ab pl head b = some (decD fb XS head b)
  | [] => ⟨0, fun k _ b hb => by cases hb⟩
  | b :: l => by
    obtain ⟨K1, e1⟩ := overs head l
    obtain ⟨K2, e2⟩ := F.ov head b
    refine ⟨K1 + K2, fun k hk c hc => ?_⟩
    rcases List.mem_cons.1 hc with h | h
    · subst h; exact e2 k (by omega)
    · exact e1 k (by omega) c h
/-! ### The document's way -/
theorem d_l3 (out : List S35) (L : List Int) (hLl : L.length ≤ 60) (i n : Nat) (back M : List Int) (hMl : M.length ≤ 60) (hbl : back.length ≤ 60) (acc : List Int) (r : List S35) (v : Bool)
    (h1 : v = true → Ev (fun k => hallmarkref08_Loops.l2 k out L (i : Int) back (wrap64 ((n : Int) + 1)) a0 fb (i : Int) (acc ++ [(n : Int)])) r) (h2 : v = false → Ev (fun k => hallmarkref08_Loops.l2 k out L (i : Int) back (wrap64 ((n : Int) + 1)) a0 fb (i : Int) acc) r) (hal : acc.length ≤ 100) :
    ∀ (d j : Nat) (f : Bool), d + j = back.length → (v = true ↔ f = true ∨ ((n : Int) ∈ L ∧ ∃ b ∈ back.drop j, b ∈ M)) → Ev (fun k => hallmarkref08_Loops.l3 k out L (i : Int) back (n : Int) f M (j : Int) a0 fb (i : Int) acc) r := by
  intro d
  induction d with
  | zero =>
    intro j f hd hv
    have e : back.drop j = [] := List.drop_eq_nil_of_le (by omega)
    have ev : v = f := by
      rw [Bool.eq_iff_iff, hv, e]; exact ⟨fun h => h.elim id (fun h => by obtain ⟨_, b, hb, _⟩ := h; cases hb), Or.inl⟩
    cases f with
    | true =>
      refine ev_step (fun k => ?_) (h1 ev)
      show hallmarkref08_Loops.l3 (k + 1) _ _ _ _ _ _ _ _ _ _ _ _ = _
      rw [hallmarkref08_Loops.l3, if_neg (by omega), if_pos rfl, if_pos (by omega)]
    | false =>
      refine ev_step (fun k => ?_) (h2 ev)
      show hallmarkref08_Loops.l3 (k + 1) _ _ _ _ _ _ _ _ _ _ _ _ = _
      rw [hallmarkref08_Loops.l3, if_neg (by omega), if_neg (by decide)]
  | succ d ih =>
    intro j f hd hv
    have hj : j < back.length := by omega
    have hdrop : back.drop j = rd back (j : Int) :: back.drop (j + 1) := by rw [rd_nat back j hj]; exact List.drop_eq_getElem_cons hj
    rw [hdrop] at hv
    cases f with
    | true =>
      refine ev_step (f := fun k => hallmarkref08_Loops.l3 k out L (i : Int) back (n : Int) true M ((j + 1 : Nat) : Int) a0 fb (i : Int) acc) (fun k => ?_) (ih (j + 1) true (by omega) ⟨fun _ => .inl rfl, fun _ => hv.2 (.inl rfl)⟩)
      show hallmarkref08_Loops.l3 (k + 1) _ _ _ _ _ _ _ _ _ _ _ _ = _
      rw [hallmarkref08_Loops.l3, if_pos (by omega), if_pos rfl, w_nat j (by omega)]
    | false =>
      refine ev_step (f := fun k => (hallmarkref07_Has.f k L (n : Int)).bind fun t249 => (if t249 = true then ((hallmarkref07_Has.f k M (rd back (j : Int))).bind fun t251 => (hallmarkref08_Loops.l3 k out L (i : Int) back (n : Int) t251 M ((j + 1 : Nat) : Int) a0 fb (i : Int) acc)) else (hallmarkref08_Loops.l3 k out L (i : Int) back (n : Int) false M ((j + 1 : Nat) : Int) a0 fb (i : Int) acc))) (fun k => ?_) (Ev.bind (has_ev L (by omega) _) ?_)
      · show hallmarkref08_Loops.l3 (k + 1) _ _ _ _ _ _ _ _ _ _ _ _ = _
        rw [hallmarkref08_Loops.l3, if_pos (by omega), if_neg (by decide), w_nat j (by omega), if_pos (show (0 : Int) ≤ (j : Int) by omega)]
      · by_cases c : (n : Int) ∈ L
        · refine Ev.congr (fun k => by rw [decide_eq_true c, if_pos rfl]) (Ev.bind (has_ev M (by omega) _) (ih (j + 1) _ (by omega) ?_))
          rw [hv, decide_eq_true_iff]
          constructor
          · rintro (h | ⟨h, b, hb, hm⟩)
            · cases h
            · rcases List.mem_cons.1 hb with e | e
              · exact .inl (by rw [← e]; exact hm)
              · exact .inr ⟨h, b, e, hm⟩
          · rintro (h | ⟨h, b, hb, hm⟩)
            · exact .inr ⟨c, _, List.mem_cons_self, h⟩
            · exact .inr ⟨h, b, List.mem_cons_of_mem _ hb, hm⟩
        · refine Ev.congr (fun k => by rw [decide_eq_false c, if_neg (by decide)]) (ih (j + 1) false (by omega) ?_)
          rw [hv]
          exact ⟨fun h => h.elim (fun h => by cases h) (fun h => absurd h.1 c), fun h => h.elim (fun h => by cases h) (fun h => absurd h.1 c)⟩
theorem d_l2 (out : List S35) (hout : out.length ≤ 100) (L : List Int) (hLl : L.length ≤ 60) (hL : ∀ x, x ∈ L ↔ 0 ≤ x ∧ x.toNat ∈ XS) (i : Nat) (R : List Bool) (hR1 : R.length = fb.length) (hR2 : ∀ x, R.getD x false = true ↔ x = i ∨ Bk fb XS i (backs fb XS i) x) (r : List S35) :
    ∀ (d n : Nat) (acc : List Int), d + n = fb.length → acc.length ≤ n → Ev (fun k => hallmarkref08_Loops.l0 k (out ++ [⟨(i : Int), acc ++ collect (R.drop n) n⟩]) L (wrap64 ((i : Int) + 1)) a0 fb) r →
    Ev (fun k => hallmarkref08_Loops.l2 k out L (i : Int) (backs fb XS i) (n : Int) a0 fb (i : Int) acc) r := by
  have hbl : (backs fb XS i).length ≤ fb.length := Nat.le_trans (List.length_filter_le _ _) (ah_len fb i fb.length)
  intro d
  induction d with
  | zero =>
    intro n acc hd hal K
    rw [List.drop_eq_nil_of_le (by omega), collect, List.append_nil] at K
    refine ev_step (fun k => ?_) K
    show hallmarkref08_Loops.l2 (k + 1) _ _ _ _ _ _ _ _ _ = _
    rw [hallmarkref08_Loops.l2, if_neg (by omega), if_pos (by omega)]
  | succ d ih =>
    intro n acc hd hal K
    have hn : n < R.length := by omega
    rw [List.drop_eq_getElem_cons hn, collect] at K
    have hg : R.getD n false = R[n] := by rw [List.getD_eq_getElem?_getD, List.getElem?_eq_getElem hn]; rfl
    obtain ⟨M, ⟨hMl, hM⟩, hME⟩ := met_ev a0 fb hN (n : Int) (i : Int)
    refine ev_step (f := fun k => (hallmarkref08_met.f k a0 fb (n : Int) (i : Int)).bind fun t246 => (hallmarkref08_Loops.l3 k out L (i : Int) (backs fb XS i) (n : Int) ((n : Int) == (i : Int)) t246 ((0 : Nat) : Int) a0 fb (i : Int) acc)) (fun k => ?_) (Ev.bind hME (d_l3 F hN out L hLl i n (backs fb XS i) M hMl (by omega) acc r (R.getD n false) (fun hv => ?_) (fun hv => ?_) (by omega) _ 0 ((n : Int) == (i : Int)) rfl ?_))
    · show hallmarkref08_Loops.l2 (k + 1) _ _ _ _ _ _ _ _ _ = _
      rw [hallmarkref08_Loops.l2, if_pos (by omega)]; rfl
    · rw [hg] at hv
      rw [if_pos hv] at K
      rw [w_nat n (by omega)]
      exact ih (n + 1) (acc ++ [(n : Int)]) (by omega) (by rw [List.length_append]; show _ + 1 ≤ _; omega) (by rw [List.append_assoc]; exact K)
    · rw [hg] at hv
      rw [if_neg (by rw [hv]; decide)] at K
      rw [w_nat n (by omega)]
      exact ih (n + 1) acc (by omega) (by omega) K
    · rw [hR2 n, List.drop_zero, beq_iff_eq]
      by_cases e : n = i
      · exact ⟨fun _ => .inl (by omega), fun _ => .inl e⟩
      · constructor
        · rintro (h | h)
          · exact absurd h e
          · obtain ⟨b, hb, hm⟩ := (bk_iff F hN h.mem h.ne).1 h
            exact .inr ⟨(hL _).2 ⟨by omega, by rw [Int.toNat_natCast]; exact h.mem⟩, b, hb, (hM b).2 hm⟩
        · rintro (h | ⟨h, b, hb, hm⟩)
          · omega
          · have hX : n ∈ XS := by have := ((hL _).1 h).2; rwa [Int.toNat_natCast] at this
            exact .inr ((bk_iff F hN hX e).2 ⟨b, hb, (hM b).1 hm⟩)
theorem d_l1 (out : List S35) (L : List Int) (i : Nat) (row : List Int) (hrl : row.length ≤ 60) (r : List S35) : ∀ (d j : Nat) (acc : List Int), d + j = row.length → acc.length ≤ j → (∀ A, A = acc ++ (row.drop j).filter (fun b => decD fb XS (i : Int) b) → (A = [] → Ev (fun k => hallmarkref08_Loops.l0 k out L (wrap64 ((i : Int) + 1)) a0 fb) r) ∧ (A ≠ [] → Ev (fun k => hallmarkref08_Loops.l2 k out L (i : Int) A 0 a0 fb (i : Int) []) r)) →
    Ev (fun k => hallmarkref08_Loops.l1 k out L (i : Int) row acc (j : Int) a0 fb) r := by
  intro d
  induction d with
  | zero =>
    intro j acc hd hal K
    rw [List.drop_eq_nil_of_le (by omega), List.filter_nil, List.append_nil] at K
    obtain ⟨k1, k2⟩ := K acc rfl
    by_cases e : acc = []
    · refine ev_step (fun k => ?_) (k1 e)
      show hallmarkref08_Loops.l1 (k + 1) _ _ _ _ _ _ _ _ = _
      rw [hallmarkref08_Loops.l1, if_neg (by omega), if_pos (by rw [e]; rfl)]
    · refine ev_step (fun k => ?_) (k2 e)
      show hallmarkref08_Loops.l1 (k + 1) _ _ _ _ _ _ _ _ = _
      have := List.length_pos_iff.2 e
      rw [hallmarkref08_Loops.l1, if_neg (by omega), if_neg (by omega)]
  | succ d ih =>
    intro j acc hd hal K
    have hj : j < row.length := by omega
    have hdrop : row.drop j = rd row (j : Int) :: row.drop (j + 1) := by rw [rd_nat row j hj]; exact List.drop_eq_getElem_cons hj
    rw [hdrop, List.filter_cons] at K
    refine ev_step (f := fun k => (hallmarkref08_Over.f k a0 fb (i : Int) (rd row (j : Int))).bind fun t237 => (if t237 = true then hallmarkref08_Loops.l1 k out L (i : Int) row (acc ++ [rd row (j : Int)]) ((j + 1 : Nat) : Int) a0 fb else hallmarkref08_Loops.l1 k out L (i : Int) row acc ((j + 1 : Nat) : Int) a0 fb)) (fun k => ?_) (Ev.bind (F.ref hN _ _) ?_)
    · show hallmarkref08_Loops.l1 (k + 1) _ _ _ _ _ _ _ _ = _
      rw [hallmarkref08_Loops.l1, if_pos (by omega), if_pos (by omega), w_nat j (by omega)]
      refine congrArg _ (funext fun t => ?_)
      rw [if_pos (show acc.length < 17592186044416 by omega)]
    · cases c : decD fb XS (i : Int) (rd row (j : Int)) with
      | true =>
        rw [c, if_pos rfl] at K
        exact Ev.congr (fun k => by rw [if_pos rfl]) (ih (j + 1) _ (by omega) (by rw [List.length_append]; show _ + 1 ≤ _; omega) (fun A hA => K A (by rw [hA, List.append_assoc]; rfl)))
      | false =>
        rw [c, if_neg (by decide)] at K
        exact Ev.congr (fun k => by rw [if_neg (by decide)]) (ih (j + 1) acc (by omega) (by omega) K)
/-- a loop as both give it -/
def GoodL (fb : List S54) (XS : List Nat) (e : S35) : Prop := e.f1.length ≤ 60 ∧ ∀ v ∈ e.f1, decD fb XS e.f0 v = true
theorem both_l0 {AH : List (List Int)} (hy : AH.length = fb.length ∧ ∀ n, n < fb.length → AH.getD n [] = ah fb n fb.length) (L : List Int) (hLl : L.length ≤ 60) (hL : ∀ x, x ∈ L ↔ 0 ≤ x ∧ x.toNat ∈ XS) :
    ∀ (d i : Nat) (out : List S35), d + i = fb.length → out.length ≤ i → ∃ r, r.length ≤ fb.length ∧ (∀ e ∈ r, e ∈ out ∨ GoodL fb XS e) ∧ Ev (fun k => loops_l0 k fb ab pl AH d i out) r ∧ Ev (fun k => hallmarkref08_Loops.l0 k out L (i : Int) a0 fb) r := by
  intro d
  induction d with
  | zero =>
    intro i out hd ho
    refine ⟨out, by omega, fun e he => .inl he, Ev.congr (fun k => by rw [loops_l0]) (Ev.now out), ev_step (f := fun _ => some out) (fun k => ?_) (Ev.now out)⟩
    show hallmarkref08_Loops.l0 (k + 1) _ _ _ _ _ = _
    rw [hallmarkref08_Loops.l0, if_neg (by omega)]
  | succ d ih =>
    intro i out hd ho
    have hi : i < fb.length := by omega
    have hrow : rd_L1 AH (i : Int) = ah fb i fb.length := by unfold rd_L1; rw [Int.toNat_natCast]; exact hy.2 i hi
    have hrl := ah_len fb i fb.length
    obtain ⟨K, hK⟩ := overs F hN (i : Int) (ah fb i fb.length)
    have hall : ∀ k, K ≤ k → allIs (over_f k ab pl (i : Int)) (ah fb i fb.length) = true := fun k hk => List.all_eq_true.2 (fun b hb => by rw [hK k hk b hb]; rfl)
    have hany : ∀ k, K ≤ k → (anyIs (over_f k ab pl (i : Int)) (ah fb i fb.length) = true ↔ backs fb XS i ≠ []) := fun k hk => by
      unfold anyIs
      rw [List.any_eq_true]
      constructor
      · rintro ⟨b, hb, hv⟩ he
        rw [hK k hk b hb, beq_iff_eq] at hv
        have : b ∈ backs fb XS i := List.mem_filter.2 ⟨hb, Option.some.inj hv⟩
        rw [he] at this; cases this
      · intro h
        obtain ⟨b, hb⟩ := List.exists_mem_of_ne_nil _ h
        have hb' := List.mem_filter.1 hb
        exact ⟨b, hb'.1, by rw [hK k hk b hb'.1, hb'.2]; rfl⟩
    have hA : Ev (fun k => hallmarkref07_Ahead.f k a0 fb (i : Int)) (ah fb i fb.length) := Ev.congr (f := fun k => hallmarkref07_Ahead.l0 k (i : Int) (ah fb i 0) ((0 : Nat) : Int) a0 fb) (fun k => rfl) (ahA_l0 a0 fb hN i _ 0 rfl)
    have doc : ∀ r, ((backs fb XS i = [] → Ev (fun k => hallmarkref08_Loops.l0 k out L (wrap64 ((i : Int) + 1)) a0 fb) r) ∧ (backs fb XS i ≠ [] → Ev (fun k => hallmarkref08_Loops.l2 k out L (i : Int) (backs fb XS i) 0 a0 fb (i : Int) []) r)) → Ev (fun k => hallmarkref08_Loops.l0 k out L (i : Int) a0 fb) r := fun r hr => by
      refine ev_step (f := fun k => (hallmarkref07_Ahead.f k a0 fb (i : Int)).bind fun t230 => (hallmarkref08_Loops.l1 k out L (i : Int) t230 (([] : List Int)) ((0 : Nat) : Int) a0 fb)) (fun k => ?_) (Ev.bind hA (d_l1 F hN out L i (ah fb i fb.length) (by omega) r _ 0 [] rfl (Nat.le_refl _) (fun A hAe => ?_)))
      · show hallmarkref08_Loops.l0 (k + 1) _ _ _ _ _ = _
        rw [hallmarkref08_Loops.l0, if_pos (by omega)]; rfl
      · have e : A = backs fb XS i := by rw [hAe, List.drop_zero, List.nil_append]; rfl
        rw [e]; exact hr
    by_cases hb : backs fb XS i = []
    · obtain ⟨r, h1, h2, h3, h4⟩ := ih (i + 1) out (by omega) (by omega)
      refine ⟨r, h1, h2, ?_, doc r ⟨fun _ => by rw [w_nat i (by omega)]; exact h4, fun h => absurd hb h⟩⟩
      obtain ⟨K2, e2⟩ := h3
      refine ⟨K + K2, fun k hk => ?_⟩
      show loops_l0 k fb ab pl AH (d + 1) i out = _
      rw [loops_l0, hrow, if_pos ⟨hall k (by omega), by rw [hy.1]; omega⟩, if_neg (fun h => (hany k (by omega)).1 h hb)]
      exact e2 k (by omega)
    · obtain ⟨R, hR1, hR2, K3, e3⟩ := body_ev F hN hy i hi
      obtain ⟨r, h1, h2, h3, h4⟩ := ih (i + 1) (out ++ [⟨(i : Int), collect R 0⟩]) (by omega) (by rw [List.length_append]; show _ + 1 ≤ _; omega)
      have hD : ∀ b ∈ backs fb XS i, decD fb XS (i : Int) b = true := fun b hb => (List.mem_filter.1 hb).2
      refine ⟨r, h1, fun e he => ?_, ?_, doc r ⟨fun h => absurd h hb, fun _ => d_l2 F hN out (by omega) L hLl hL i R hR1 hR2 r _ 0 [] rfl (Nat.le_refl _) (by rw [w_nat i (by omega)]; exact h4)⟩⟩
      · rcases h2 e he with h | h
        · rcases List.mem_append.1 h with h | h
          · exact .inl h
          · rw [List.mem_singleton] at h
            subst h
            refine .inr ⟨by have := collect_len R 0; show (collect R 0).length ≤ 60; omega, fun v hv => ?_⟩
            obtain ⟨x, hx1, hx2, hx3⟩ := collect_mem R 0 v hv
            rw [Nat.zero_add] at hx1
            show decD fb XS (i : Int) v = true
            rw [hx1]
            rcases (hR2 x).1 hx3 with e | e
            · subst e
              obtain ⟨b, hb'⟩ := List.exists_mem_of_ne_nil _ hb
              exact F.refl x (by simpa using (decD_mem (hD b hb')).2.2.1)
            · exact bk_dom F hN hD e
        · exact .inr h
      · obtain ⟨K2, e2⟩ := h3
        refine ⟨K + K2 + K3, fun k hk => ?_⟩
        dsimp only at e3
        show loops_l0 k fb ab pl AH (d + 1) i out = _
        rw [loops_l0, hrow, if_pos ⟨hall k (by omega), by rw [hy.1]; omega⟩, if_pos ((hany k (by omega)).2 hb), e3 k (by omega), Option.bind_some]
        exact e2 k (by omega)
theorem both_loops : ∃ r, r.length ≤ 60 ∧ (∀ e ∈ r, GoodL fb XS e) ∧ Ev (fun k => dom_Loops.f k a0 fb) r ∧ Ev (fun k => hallmarkref08_Loops.f k a0 fb) r := by
  obtain ⟨AH, hy, K1, e1⟩ := ahead_ev a0 fb hN
  obtain ⟨L, ⟨hLl, hL⟩, hLE⟩ := met_ev a0 fb hN 0 (-1)
  have hLX : ∀ x, x ∈ L ↔ 0 ≤ x ∧ x.toNat ∈ XS := fun x => by
    rw [hL]
    rcases F.ord with ⟨h1, h2⟩ | h
    · subst h1; subst h2
      exact ⟨fun h => absurd h.2.2.1 (by decide), fun h => absurd h.2 (by simp)⟩
    · exact met_first h x
  obtain ⟨r, h1, h2, ⟨K2, e2⟩, h4⟩ := both_l0 F hN hy L hLl hLX _ 0 [] rfl (Nat.le_refl _)
  obtain ⟨K3, e3⟩ := F.gr
  refine ⟨r, by omega, fun e he => (h2 e he).elim (fun h => by cases h) id, ⟨K1 + K2 + K3, fun k hk => ?_⟩, ?_⟩
  · dsimp only at e1 e2 e3
    show dom_Loops.f k a0 fb = _
    unfold dom_Loops.f
    rw [e3 k (by omega), Option.bind_some, e1 k (by omega), Option.bind_some, if_pos (by omega)]
    exact e2 k (by omega)
  · refine Ev.congr (f := fun k => (hallmarkref08_met.f k a0 fb 0 (-1)).bind fun t227 => (hallmarkref08_Loops.l0 k (([] : List (S35))) t227 ((0 : Nat) : Int) a0 fb)) (fun k => ?_) (Ev.bind hLE h4)
    show hallmarkref08_Loops.f k a0 fb = _
    unfold hallmarkref08_Loops.f; rfl
theorem rdT (r : List S35) (x : Nat) (hx : x < r.length) : rd_T35 r (x : Int) ∈ r := by
  unfold rd_T35
  rw [Int.toNat_natCast, List.getD_eq_getElem?_getD, List.getElem?_eq_getElem hx]
  exact List.getElem_mem hx
theorem law_l1 (r : List S35) (hr : r.length ≤ 60) (x : Nat) (hx : x < r.length) (hg : GoodL fb XS (rd_T35 r (x : Int))) (K : Ev (fun k => hallmarklaw08_DomLoops.l0 k r r ((x + 1 : Nat) : Int) a0 fb) true) :
    ∀ (d j : Nat), d + j = ((rd_T35 r (x : Int)).f1).length → Ev (fun k => hallmarklaw08_DomLoops.l1 k r r (x : Int) (j : Int) a0 fb) true := by
  have hgl := hg.1
  intro d
  induction d with
  | zero =>
    intro j hd
    refine ev_step (fun k => ?_) K
    show hallmarklaw08_DomLoops.l1 (k + 1) _ _ _ _ _ _ = _
    rw [hallmarklaw08_DomLoops.l1, if_pos (by omega), if_pos (by omega), if_neg (by omega), w_nat x (by omega)]
  | succ d ih =>
    intro j hd
    refine ev_step (f := fun k => (hallmarkref08_Over.f k a0 fb ((rd_T35 r (x : Int)).f0) (rd ((rd_T35 r (x : Int)).f1) (j : Int))).bind fun t276 => (if t276 = true then (hallmarklaw08_DomLoops.l1 k r r (x : Int) ((j + 1 : Nat) : Int) a0 fb) else (some false))) (fun k => ?_) (Ev.bind (F.ref hN _ _) ?_)
    · show hallmarklaw08_DomLoops.l1 (k + 1) _ _ _ _ _ _ = _
      rw [hallmarklaw08_DomLoops.l1, if_pos (by omega), if_pos (by omega), if_pos (by omega), if_pos (by omega), w_nat j (by omega)]
    · have e : decD fb XS ((rd_T35 r (x : Int)).f0) (rd ((rd_T35 r (x : Int)).f1) (j : Int)) = true := hg.2 _ (by rw [rd_nat _ j (by omega)]; exact List.getElem_mem _)
      exact Ev.congr (fun k => by rw [e, if_pos rfl]) (ih (j + 1) (by omega))
theorem law_l0 (r : List S35) (hr : r.length ≤ 60) (hg : ∀ e ∈ r, GoodL fb XS e) : ∀ (d x : Nat), d + x = r.length → Ev (fun k => hallmarklaw08_DomLoops.l0 k r r (x : Int) a0 fb) true := by
  intro d
  induction d with
  | zero =>
    intro x hd
    refine ev_step (f := fun k => (hallmarklaw08_lives.f k).bind fun t => some t) (fun k => ?_) (Ev.bind lives_ev (Ev.now true))
    show hallmarklaw08_DomLoops.l0 (k + 1) _ _ _ _ _ = _
    rw [hallmarklaw08_DomLoops.l0, if_neg (by omega)]
  | succ d ih =>
    intro x hd
    have hx : x < r.length := by omega
    have G := hg _ (rdT F hN r x hx)
    refine ev_step (f := fun k => (hallmarkref04_Ints.f k ((rd_T35 r (x : Int)).f1) ((rd_T35 r (x : Int)).f1)).bind fun t271 => (hallmarklaw08_DomLoops.j1 k r r (x : Int) (!t271) a0 fb)) (fun k => ?_) (Ev.bind (ints_ev _ (by have := G.1; omega)) ?_)
    · show hallmarklaw08_DomLoops.l0 (k + 1) _ _ _ _ _ = _
      rw [hallmarklaw08_DomLoops.l0, if_pos (by omega), if_pos (by omega), if_pos (by omega), if_pos rfl]
    · refine ev_step (f := fun k => hallmarklaw08_DomLoops.l1 k r r (x : Int) ((0 : Nat) : Int) a0 fb) (fun k => ?_) (law_l1 F hN r hr x hx G (ih (x + 1) (by omega)) _ 0 rfl)
      show hallmarklaw08_DomLoops.j1 (k + 1) _ _ _ _ _ _ = _
      rw [hallmarklaw08_DomLoops.j1, if_neg (by decide)]; rfl
end
end Go.Proofs.Ytemclhndmcjmmaa.BaseDomLoops
namespace Go.Proofs.Ytemclhndmcjmmaa.Pure
open Go Go.RowKit Go.Proofs.YtemclhndmcjmmaaW.PrintWords Go.Proofs.YtemclhndmcjmmaaW.PrintLast Go.Proofs.YtemclhndmcjmmaaW.PrintMore Go.Proofs.Ytemclhndmcjmmaa.PDomLoops Go.Proofs.Ytemclhndmcjmmaa.BaseDomLoops
theorem DomLoops : hallmarklaw08_DomLoops.Pure := by
  intro a0 fb _ _
  obtain ⟨m, hm, hfew⟩ := few_is a0 fb
  have hN : (fb.take m).length ≤ 60 := by rw [List.length_take]; omega
  obtain ⟨XS, ab, pl, F⟩ := full_ev a0 (fb.take m) hN
  obtain ⟨r, hr, hg, h1, h2⟩ := both_loops F hN
  have key : Ev (fun k => hallmarklaw08_DomLoops.f k a0 fb) true := by
    refine Ev.congr (f := fun k => (dom_Loops.f k a0 (fb.take m)).bind fun t260 => ((hallmarkref08_Loops.f k a0 (fb.take m)).bind fun t263 => (if (t260.length : Int) = (t263.length : Int) then (hallmarklaw08_DomLoops.l0 k t260 t263 ((0 : Nat) : Int) a0 (fb.take m)) else (some false)))) (fun k => ?_) (Ev.bind h1 (Ev.bind h2 ?_))
    · show hallmarklaw08_DomLoops.f k a0 fb = _
      unfold hallmarklaw08_DomLoops.f
      rw [hfew, Option.bind_some]; rfl
    · exact Ev.congr (fun k => by rw [if_pos rfl]) (law_l0 F hN r hr hg _ 0 rfl)
  exact key.rounds
end Go.Proofs.Ytemclhndmcjmmaa.Pure
