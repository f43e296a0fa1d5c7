/- A range over a function whose rounds all go on, and whose iterator may have cells of its own: the iterator's contract; the law of the statement. -/
import Derived.RangeFuncNested
import Derived.RangeFuncBound
import Derived.RangeFuncCalls
import Derived.RangeFuncLeaves
import Derived.Shelf.Abstract
import Derived.Shelf.RegionOpen
import Derived.WalkKit
import Derived.OwnWalkIn
import Derived.TacticsInMore
import Derived.LoopNIn
import Derived.LoopIn
import Derived.WalkMore
import Derived.Sort.LoopGhostIn
import Derived.Sort.CutIn
import Derived.Stop.RegionWithIn
import Derived.RangeFuncBox
import Derived.Maps.OwnIn
import Derived.Test.YtojmepkhbebllaaDoorWMore
set_option linter.unusedVariables false
namespace Go.Proofs.YtojmepkhbebllaaDoor.Iter
open Go Go.RowKit Go.Proofs.YtojmepkhbebllaaDoorW.PrintWords

/-- What T holds lies as it lay. -/
structure Hold (T : Nat → Prop) (A B : World) : Prop where
  os : B.os = A.os
  tape : B.tape = A.tape
  output : B.output = A.output
  size : A.heap.size ≤ B.heap.size
  block : ∀ k, T k → B.heap[k]? = A.heap[k]?
/-- All that was there lies as it lay, but T. -/
abbrev Keep (T : Nat → Prop) (A B : World) : Prop := Hold (fun k => k < A.heap.size ∧ ¬ T k) A B
theorem Hold.refl (T : Nat → Prop) (A : World) : Hold T A A := ⟨rfl, rfl, rfl, Nat.le_refl _, fun _ _ => rfl⟩
theorem Hold.trans {T : Nat → Prop} {A B C : World} (h : Hold T A B) (k : Hold T B C) : Hold T A C :=
  ⟨k.os.trans h.os, k.tape.trans h.tape, k.output.trans h.output, Nat.le_trans h.size k.size, fun i hi => (k.block i hi).trans (h.block i hi)⟩
theorem Hold.mono {T T' : Nat → Prop} {A B : World} (h : Hold T A B) (hs : ∀ k, T' k → T k) : Hold T' A B := ⟨h.os, h.tape, h.output, h.size, fun k hk => h.block k (hs k hk)⟩
theorem Keep.then_ {T0 T : Nat → Prop} {A B C : World} (h : Keep T0 A B) (k : Keep T B C) (hs : ∀ k, T k → T0 k ∨ A.heap.size ≤ k) : Keep T0 A C :=
  Hold.trans h ⟨k.os, k.tape, k.output, k.size, fun i hi => k.block i ⟨Nat.lt_of_lt_of_le hi.1 h.size, fun hT => (hs i hT).elim hi.2 (fun hle => by have := hi.1; omega)⟩⟩
theorem Hold.putObj (A : World) (l : Nat) (o : Obj) : Hold (fun k => k ≠ l) A (A.putObj l o) := ⟨rfl, rfl, rfl, by simp, fun k hk => World.putObj_heap_other hk⟩
theorem Hold.alloc {T : Nat → Prop} {A B : World} (h : Hold T A B) (o : Obj) (hT : ∀ k, T k → k < B.heap.size) : Hold T A (B.alloc o) :=
  h.trans ⟨rfl, rfl, rfl, by simp, fun k hk => Below.heap_alloc B o k (hT k hk)⟩
theorem Keep.alloc {T : Nat → Prop} {A B : World} (h : Keep T A B) (o : Obj) : Keep T A (B.alloc o) := Hold.alloc h o (fun k hk => Nat.lt_of_lt_of_le hk.1 h.size)
theorem Hold.drew {T : Nat → Prop} {A B : World} (h : Hold T A B) : Hold T A B.drew := ⟨h.os, h.tape, h.output, h.size, h.block⟩
theorem Hold.drewN {T : Nat → Prop} {A B : World} (h : Hold T A B) (m : Nat) : Hold T A (B.drewN m) := ⟨h.os, h.tape, h.output, h.size, h.block⟩
theorem Hold.setCell {T : Nat → Prop} {A B : World} (h : Hold T A B) (p : Addr) (u : Value) (hp : ¬ T p.block) : Hold T A (B.setCell p u) :=
  h.trans ⟨rfl, rfl, rfl, by simp [World.setCell], fun k hk => Below.heap_setCell B p u k (fun e => hp (e ▸ hk))⟩
theorem Hold.grown {T : Nat → Prop} {A B C : World} (h : Hold T A B) {row : Option Nat} (hg : B.grownBy C row) (hlt : ∀ k, T k → k < B.heap.size) (hr : ∀ k, T k → some k ≠ row) : Hold T A C :=
  h.trans ⟨hg.os, hg.tape, hg.output, hg.size, fun k hk => hg.block k (hlt k hk) (hr k hk)⟩
theorem Hold.of_below {T : Nat → Prop} {A B : World} {n : Nat} (h : Below n A B) (hT : ∀ k, T k → k < n) : Hold T A B := ⟨h.os, h.tape, h.output, h.size, fun k hk => h.block k (hT k hk)⟩
theorem Hold.below_ {T : Nat → Prop} {A B : World} {n : Nat} (h : Hold T A B) (hT : ∀ k, k < n → T k) : Below n A B := ⟨h.os, h.tape, h.output, h.size, fun k hk => h.block k (hT k hk)⟩
theorem Keep.of_below {T : Nat → Prop} {A B : World} (h : Below A.heap.size A B) : Keep T A B := Hold.of_below h (fun k hk => hk.1)
theorem Keep.below {T : Nat → Prop} {A B : World} {n : Nat} (h : Keep T A B) (hn : n ≤ A.heap.size) (hT : ∀ k, T k → n ≤ k) : Below n A B :=
  ⟨h.os, h.tape, h.output, h.size, fun k hk => h.block k ⟨by omega, fun hk2 => by have := hT k hk2; omega⟩⟩
theorem Hold.cell {T : Nat → Prop} {A B : World} (h : Hold T A B) {a : Addr} {v : Value} (hc : A.cell? a = some v) (ha : T a.block) : B.cell? a = some v :=
  (World.cell?_of_block (h.block _ ha)).trans hc
theorem Hold.frozen {T : Nat → Prop} {A B : World} (h : Hold T A B) {a : Addr} {v : Bool} (hc : A.frozen? a = v) (ha : T a.block) : B.frozen? a = v :=
  (World.frozen?_of_block (h.block _ ha)).trans hc
theorem Hold.row {α : Type} {d : Kd α} {T ok : Nat → Prop} {A B : World} {e base : Nat} {v : Value} {xs : List α} (h : Hold T A B) (hr : d.R e A base ok v xs) (hT : ∀ k, ok k → T k) : d.R e B base ok v xs :=
  Kd.R_move hr (fun k hk => h.block k (hT k hk))

def Stable {α : Type} (J : List α → (Nat → Prop) → World → Prop) : Prop := ∀ s T A B, J s T A → Hold T A B → J s T B

/-- The iterator's contract: R: what it reads (nobody else's to write); G: what is known of a round. -/
def Gives {α : Type} (F : Fence) (n : Nat) (P : Program) (g : Nat) (lb : Array Value) (encs : α → Array Value) (R : Nat → Prop) (S : List α → Prop) (G : List α → α → Prop) (w : World) : Prop :=
  ∀ (l : Nat) (J : List α → (Nat → Prop) → World → Prop) (T0 : Nat → Prop) (W : World), Below w.heap.size w W → Stable J → (∀ k, T0 k → k < W.heap.size ∧ ¬ R k) →
    (∀ pre x T W1, J pre T W1 → G pre x → Keep T0 W W1 → (∀ k, T k → (T0 k ∨ W.heap.size ≤ k) ∧ k < W1.heap.size) →
      YieldAt F (n - 1) P l (encs x) W1 fun e W' => e = .returned (.bool true) ∧ ∃ T', (∀ k, T' k → (T k ∨ W1.heap.size ≤ k) ∧ k < W'.heap.size) ∧ Keep T W1 W' ∧ J (pre ++ [x]) T' W') →
    J [] T0 W →
    CallsIn F n P g (#[.func (.yield l) #[] #[]] ++ lb) W fun e W' => (∃ v, e = .returned v) ∧ ∃ xs T', S xs ∧ J xs T' W' ∧ Keep T0 W W' ∧ (∀ k, T' k → (T0 k ∨ W.heap.size ≤ k) ∧ k < W'.heap.size)

/-- The same, where what the iterator reads may be written by the rounds: each world that a round may find or leave must be one that it can read on in (Rd). -/
def GivesW {α : Type} (F : Fence) (n : Nat) (P : Program) (g : Nat) (lb : Array Value) (encs : α → Array Value) (Rd : World → Prop) (S : List α → Prop) (G : List α → α → Prop) (w : World) : Prop :=
  ∀ (l : Nat) (J : List α → (Nat → Prop) → World → Prop) (T0 : Nat → Prop) (W : World), Below w.heap.size w W → Stable J → (∀ k, T0 k → k < W.heap.size) → (∀ s T X, J s T X → Rd X) →
    (∀ pre x T W1, J pre T W1 → G pre x → Keep T0 W W1 → (∀ k, T k → (T0 k ∨ W.heap.size ≤ k) ∧ k < W1.heap.size) →
      YieldAt F (n - 1) P l (encs x) W1 fun e W' => e = .returned (.bool true) ∧ ∃ T', (∀ k, T' k → (T k ∨ W1.heap.size ≤ k) ∧ k < W'.heap.size) ∧ Keep T W1 W' ∧ J (pre ++ [x]) T' W') →
    J [] T0 W →
    CallsIn F n P g (#[.func (.yield l) #[] #[]] ++ lb) W fun e W' => (∃ v, e = .returned v) ∧ ∃ xs T', S xs ∧ J xs T' W' ∧ Keep T0 W W' ∧ (∀ k, T' k → (T0 k ∨ W.heap.size ≤ k) ∧ k < W'.heap.size)

/-- How a round's body must end. -/
def roundEnd {α : Type} (I : List α → (Nat → Prop) → World → Prop) (xs : List α) (T : Nat → Prop) (W W2 : World) : Exit → Act → World → Prop
  | .normal, _, W3 => ∃ T', (∀ k, T' k → (T k ∨ W.heap.size ≤ k) ∧ k < W3.heap.size) ∧ Hold (fun k => k < W.heap.size ∧ ¬ T k) W2 W3 ∧ I xs T' W3
  | _, _, _ => False

variable {F : Fence} {n : Nat} {P : Program}
theorem wpIn_range {α : Type} {g : Operand} {ps : Array Tmp} {assign body : Code} {Q : Exit → Act → World → Prop} {a : Act} {w : World}
    (hro : F.round = none) (h1 : 1 ≤ n) {gf : Nat} {lb : Array Value} (hg : a.eval g = .func (.func gf) #[] lb) (hFg : F.fn gf) (eg : ∀ args w, (callFunc gf args).run P w = .ok (.enter gf args) w)
    {encs : α → Array Value} {R : Nat → Prop} {S : List α → Prop} {G : List α → α → Prop} {w0 : World} (hseq : Gives F (n - 1) P gf lb encs R S G w0)
    (hb0 : Below w0.heap.size w0 w) (hps : ∀ x, (encs x).size = ps.size)
    (I : List α → (Nat → Prop) → World → Prop) (hI : Stable I) (T0 : Nat → Prop) (h0 : I [] T0 w) (hT0 : ∀ k, T0 k → k < w.heap.size ∧ ¬ R k) (hR : ∀ k, R k → k < w.heap.size)
    (hround : ∀ (pre : List α) (x : α) (T : Nat → Prop) (W : World), I pre T W → G pre x → w.heap.size + 1 < W.heap.size → (∀ k, T k → (T0 k ∨ w.heap.size + 2 ≤ k) ∧ k < W.heap.size) → Keep T0 w W →
      assign.wpIn (F.inRound (w.heap.size + 1)) (n - 1 - 1) P (Exit.then (fun a₁ W1 => Hold (fun k => k < W.heap.size ∧ ¬ T k) W W1 ∧
          ∀ W2, W2.heap.size = W1.heap.size → Hold (fun k => k ≠ w.heap.size + 1) W1 W2 → body.wpIn (F.inRound (w.heap.size + 1)) (n - 1 - 1) P (roundEnd I (pre ++ [x]) T W W2) a₁ W2) (fun _ _ _ => False))
        { tmps := (ps.zip (encs x)).foldl (fun t (p, v) => t.setIfInBounds p v) a.tmps, defers := [] } W)
    (hdone : ∀ (D : Nat) (xs : List α) (T : Nat → Prop) (W : World), D = w.heap.size → S xs → I xs T W → W.heap[D]? = some (.deferred (some [])) → Keep T0 w W → (∀ k, T k → (T0 k ∨ w.heap.size + 2 ≤ k) ∧ k < W.heap.size) →
      Q .normal { a with defers := { target := .collected D, args := #[] } :: a.defers } W) :
    (Code.rangeFunc g ps assign body).wpIn F n P Q a w := by
  refine wpIn_rangeFunc ?_
  intro fn hfn
  rw [hro]
  obtain ⟨rec, hrec⟩ : ∃ rec : LoopState → Option Code → Loop, rec = fun st pe => { state := st, pending := pe, fn, tmps := a.tmps, params := ps, assign, body, defers := w.heap.size } := ⟨_, rfl⟩
  obtain ⟨l, hl⟩ : ∃ l, l = w.heap.size + 1 := ⟨_, rfl⟩
  obtain ⟨D, hD⟩ : ∃ D, D = w.heap.size := ⟨_, rfl⟩
  obtain ⟨W1, hW1⟩ : ∃ W1, (w.alloc (.deferred (some []))).alloc (.loop (rec .ready none)) = W1 := ⟨_, rfl⟩
  have hs1 : W1.heap.size = w.heap.size + 2 := by rw [← hW1]; simp
  have hL1 : W1.heap[l]? = some (.loop (rec .ready none)) := by
    rw [← hW1, hl]; have := World.alloc_heap_new (w.alloc (.deferred (some []))) (.loop (rec .ready none)); rwa [World.size_alloc] at this
  have hK1 : W1.heap[D]? = some (.deferred (some [])) := by
    rw [← hW1, hD]; exact (Below.heap_alloc _ _ _ (by simp)).trans (World.alloc_heap_new w _)
  have hw1 : Below w.heap.size w W1 := by rw [← hW1]; exact ((Below.refl _ w).alloc (Nat.le_refl _) _).alloc (by simp) _
  have hI1 : I [] T0 W1 := hI _ _ _ _ h0 (Hold.of_below hw1 (fun k hk => (hT0 k hk).1))
  have hb1 : Below w0.heap.size w0 W1 := hb0.trans (hw1.mono hb0.size)
  refine ⟨l, [{ target := .collected D, args := #[] }], W1, { target := .fn (.func gf) lb, args := #[.func (.yield l) #[] #[]] }, W1, gf, #[.func (.yield l) #[] #[]] ++ lb, W1, ?_, ?_, ?_, ?_, fun _ => h1, ?_⟩
  · rw [← hW1, hrec, hl, hD]; exact run_enterLoop_outer _ _ _ _ _
  · simp only [resolve, hg]
    simp [go_sem]
  · intro f' hf'; simp [Target.leads] at hf'; subst hf'; exact hFg
  · simp [invoke, go_sem, eg]
  · have hTt : ∀ T' : Nat → Prop, (∀ k, T' k → k ≠ l ∧ k ≠ D) → (fun k => (T' k ∨ k = l ∨ k = D) ∧ k ≠ l ∧ k ≠ D) = T' := fun T' hT => funext fun k => propext ⟨fun h => h.1.elim id (fun h' => h'.elim (fun e => absurd e h.2.1) (fun e => absurd e h.2.2)), fun h => ⟨.inl h, hT k h⟩⟩
    refine (hseq l (fun pre T W => I pre (fun k => T k ∧ k ≠ l ∧ k ≠ D) W ∧ T l ∧ T D ∧ W.heap[l]? = some (.loop (rec .ready none)) ∧ W.heap[D]? = some (.deferred (some []))) (fun k => T0 k ∨ k = l ∨ k = D) W1 hb1 ?_ ?_ ?_ ?_).mono ?_
    · rintro s T A B ⟨hi, tl, tD, hl', hk'⟩ hh
      exact ⟨hI _ _ _ _ hi (hh.mono (fun k hk => hk.1)), tl, tD, (hh.block _ tl).trans hl', (hh.block _ tD).trans hk'⟩
    · rintro k (hk | rfl | rfl)
      · exact ⟨by have := (hT0 k hk).1; omega, (hT0 k hk).2⟩
      · exact ⟨by omega, fun hr => by have := hR _ hr; omega⟩
      · exact ⟨by omega, fun hr => by have := hR _ hr; omega⟩
    · rintro pre x T W ⟨hi, tl, tD, hl', hk'⟩ hlen hkeep hTs
      have hlt : l < W.heap.size := (Array.getElem?_eq_some_iff.1 hl').1
      have hsz : W1.heap.size ≤ W.heap.size := hkeep.size
      have hkw : Keep T0 w W := ⟨hkeep.os.trans hw1.os, hkeep.tape.trans hw1.tape, hkeep.output.trans hw1.output, by omega, fun k hk =>
        (hkeep.block k ⟨by omega, fun h => h.elim hk.2 (fun h => h.elim (fun e => by omega) (fun e => by omega))⟩).trans (hw1.block k hk.1)⟩
      have hy := run_yield (P := P) (args := encs x) hl' (by rw [hrec]; exact hps x)
      rw [hrec] at hy
      have hTi : ∀ k, (T k ∧ k ≠ l ∧ k ≠ D) → (T0 k ∨ w.heap.size + 2 ≤ k) ∧ k < W.heap.size := fun k hk => by
        obtain ⟨h1, h2⟩ := hTs k hk.1
        refine ⟨?_, h2⟩
        rcases h1 with (h1 | h1 | h1) | h1
        · exact .inl h1
        · exact absurd h1 hk.2.1
        · exact absurd h1 hk.2.2
        · exact .inr (by omega)
      have hr := hround pre x (fun k => T k ∧ k ≠ l ∧ k ≠ D) W hi hlen (by omega) hTi hkw
      refine ⟨fn, _, assign, body, hy, roundIn_of_wpIn hfn ?_⟩
      rw [← hl] at hr
      refine wpIn_mono hr ?_
      rintro e a1 Wa hp
      cases e with
      | normal =>
        obtain ⟨hh1, hbody⟩ := hp
        have hla : Wa.heap[l]? = some (.loop (rec .ready none)) := (hh1.block l ⟨hlt, fun h => h.2.1 rfl⟩).trans hl'
        have hDa : Wa.heap[D]? = some (.deferred (some [])) := (hh1.block D ⟨by omega, fun h => h.2.2 rfl⟩).trans hk'
        have hlta : l < Wa.heap.size := (Array.getElem?_eq_some_iff.1 hla).1
        refine ⟨_, run_beginRound hla (by rw [hrec]), ?_⟩
        have hb2 := hbody (Wa.putObj l (.loop { rec .ready none with state := .busy })) (by simp) (Hold.putObj _ _ _)
        refine wpIn_mono hb2 ?_
        rintro e a3 W3 hp3
        cases e with
        | normal =>
          obtain ⟨T', hT', hh3, hi3⟩ := hp3
          have hl3 : W3.heap[l]? = some (.loop { rec .ready none with state := .busy }) := (hh3.block l ⟨hlt, fun h => h.2.1 rfl⟩).trans (World.putObj_heap_same hlta)
          have hD3 : W3.heap[D]? = some (.deferred (some [])) := (hh3.block D ⟨by omega, fun h => h.2.2 rfl⟩).trans ((World.putObj_heap_other (by omega)).trans hDa)
          have hlt3 : l < W3.heap.size := (Array.getElem?_eq_some_iff.1 hl3).1
          have hle3 : W.heap.size ≤ W3.heap.size := by have h1 := hh1.size; have h3 := hh3.size; simp at h3; omega
          have hne : ∀ k, T' k → k ≠ l ∧ k ≠ D := fun k hk => by
            rcases (hT' k hk).1 with h | h
            · exact h.2
            · omega
          have hend := run_endRound (P := P) none hl3
          refine ⟨_, _, hend, rfl, fun k => T' k ∨ k = l ∨ k = D, ?_, ?_, ?_, .inr (.inl rfl), .inr (.inr rfl), ?_, ?_⟩
          · rintro k (hk | rfl | rfl)
            · obtain ⟨h2, h3⟩ := hT' k hk
              exact ⟨h2.imp (fun h => h.1) id, by simpa using h3⟩
            · exact ⟨.inl tl, by simpa using hlt3⟩
            · exact ⟨.inl tD, by simp; omega⟩
          · refine ⟨hh3.os.trans hh1.os, hh3.tape.trans hh1.tape, hh3.output.trans hh1.output, by simp; omega, fun k hk => ?_⟩
            have hkl : k ≠ l := fun e => hk.2 (e ▸ tl)
            have hkn : k < W.heap.size ∧ ¬ (T k ∧ k ≠ l ∧ k ≠ D) := ⟨hk.1, fun h => hk.2 h.1⟩
            exact (World.putObj_heap_other hkl).trans ((hh3.block k hkn).trans ((World.putObj_heap_other hkl).trans (hh1.block k hkn)))
          · have := hI _ _ _ _ hi3 ((Hold.putObj W3 l (.loop { rec .ready none with state := if (none : Option Code).isNone then .ready else .done, pending := none })).mono (fun k hk => (hne k hk).1))
            rw [hTt T' hne]
            rw [hrec] at this ⊢
            exact this
          · rw [World.putObj_heap_same hlt3, hrec]; rfl
          · rw [World.putObj_heap_other (by omega)]; exact hD3
        | _ => exact hp3.elim
      | _ => exact hp.elim
    · exact ⟨by rw [hTt T0 (fun k hk => by have := (hT0 k hk).1; omega)]; exact hI1, .inr (.inl rfl), .inr (.inr rfl), hL1, hK1⟩
    · rintro e W2 ⟨⟨v, rfl⟩, xs, T', hS, ⟨hi, tl, tD, hl2, hk2⟩, hkeep, hTs⟩
      have hsz : W1.heap.size ≤ W2.heap.size := hkeep.size
      have hend := run_endLoop (P := P) hl2 (by rw [hrec]; simp)
      have hlt2 : l < W2.heap.size := (Array.getElem?_eq_some_iff.1 hl2).1
      rw [hrec] at hend
      refine ⟨none, _, hend, ?_⟩
      refine hdone D xs (fun k => T' k ∧ k ≠ l ∧ k ≠ D) _ hD hS (hI _ _ _ _ hi ((Hold.putObj _ _ _).mono (fun k hk => hk.2.1))) ((World.putObj_heap_other (by omega)).trans hk2) ?_ ?_
      · refine ⟨hkeep.os.trans hw1.os, hkeep.tape.trans hw1.tape, hkeep.output.trans hw1.output, by simp; omega, fun k hk => ?_⟩
        exact (World.putObj_heap_other (by omega)).trans ((hkeep.block k ⟨by omega, fun h => h.elim hk.2 (fun h => h.elim (fun e => by omega) (fun e => by omega))⟩).trans (hw1.block k hk.1))
      · rintro k ⟨hk, hkl, hkD⟩
        obtain ⟨h1, h2⟩ := hTs k hk
        refine ⟨?_, by simpa using h2⟩
        rcases h1 with (h1 | h1 | h1) | h1
        · exact .inl h1
        · exact absurd h1 hkl
        · exact absurd h1 hkD
        · exact .inr (by omega)
theorem wpIn_rangeW {α : Type} {g : Operand} {ps : Array Tmp} {assign body : Code} {Q : Exit → Act → World → Prop} {a : Act} {w : World}
    (hro : F.round = none) (h1 : 1 ≤ n) {gf : Nat} {lb : Array Value} (hg : a.eval g = .func (.func gf) #[] lb) (hFg : F.fn gf) (eg : ∀ args w, (callFunc gf args).run P w = .ok (.enter gf args) w)
    {encs : α → Array Value} {Rd : World → Prop} {S : List α → Prop} {G : List α → α → Prop} {w0 : World} (hseq : GivesW F (n - 1) P gf lb encs Rd S G w0)
    (hb0 : Below w0.heap.size w0 w) (hps : ∀ x, (encs x).size = ps.size)
    (I : List α → (Nat → Prop) → World → Prop) (hI : Stable I) (hRd : ∀ s T X, I s T X → Rd X) (T0 : Nat → Prop) (h0 : I [] T0 w) (hT0 : ∀ k, T0 k → k < w.heap.size)
    (hround : ∀ (pre : List α) (x : α) (T : Nat → Prop) (W : World), I pre T W → G pre x → w.heap.size + 1 < W.heap.size → (∀ k, T k → (T0 k ∨ w.heap.size + 2 ≤ k) ∧ k < W.heap.size) → Keep T0 w W →
      assign.wpIn (F.inRound (w.heap.size + 1)) (n - 1 - 1) P (Exit.then (fun a₁ W1 => Hold (fun k => k < W.heap.size ∧ ¬ T k) W W1 ∧
          ∀ W2, W2.heap.size = W1.heap.size → Hold (fun k => k ≠ w.heap.size + 1) W1 W2 → body.wpIn (F.inRound (w.heap.size + 1)) (n - 1 - 1) P (roundEnd I (pre ++ [x]) T W W2) a₁ W2) (fun _ _ _ => False))
        { tmps := (ps.zip (encs x)).foldl (fun t (p, v) => t.setIfInBounds p v) a.tmps, defers := [] } W)
    (hdone : ∀ (D : Nat) (xs : List α) (T : Nat → Prop) (W : World), D = w.heap.size → S xs → I xs T W → W.heap[D]? = some (.deferred (some [])) → Keep T0 w W → (∀ k, T k → (T0 k ∨ w.heap.size + 2 ≤ k) ∧ k < W.heap.size) →
      Q .normal { a with defers := { target := .collected D, args := #[] } :: a.defers } W) :
    (Code.rangeFunc g ps assign body).wpIn F n P Q a w := by
  refine wpIn_rangeFunc ?_
  intro fn hfn
  rw [hro]
  obtain ⟨rec, hrec⟩ : ∃ rec : LoopState → Option Code → Loop, rec = fun st pe => { state := st, pending := pe, fn, tmps := a.tmps, params := ps, assign, body, defers := w.heap.size } := ⟨_, rfl⟩
  obtain ⟨l, hl⟩ : ∃ l, l = w.heap.size + 1 := ⟨_, rfl⟩
  obtain ⟨D, hD⟩ : ∃ D, D = w.heap.size := ⟨_, rfl⟩
  obtain ⟨W1, hW1⟩ : ∃ W1, (w.alloc (.deferred (some []))).alloc (.loop (rec .ready none)) = W1 := ⟨_, rfl⟩
  have hs1 : W1.heap.size = w.heap.size + 2 := by rw [← hW1]; simp
  have hL1 : W1.heap[l]? = some (.loop (rec .ready none)) := by
    rw [← hW1, hl]; have := World.alloc_heap_new (w.alloc (.deferred (some []))) (.loop (rec .ready none)); rwa [World.size_alloc] at this
  have hK1 : W1.heap[D]? = some (.deferred (some [])) := by
    rw [← hW1, hD]; exact (Below.heap_alloc _ _ _ (by simp)).trans (World.alloc_heap_new w _)
  have hw1 : Below w.heap.size w W1 := by rw [← hW1]; exact ((Below.refl _ w).alloc (Nat.le_refl _) _).alloc (by simp) _
  have hI1 : I [] T0 W1 := hI _ _ _ _ h0 (Hold.of_below hw1 (fun k hk => hT0 k hk))
  have hb1 : Below w0.heap.size w0 W1 := hb0.trans (hw1.mono hb0.size)
  refine ⟨l, [{ target := .collected D, args := #[] }], W1, { target := .fn (.func gf) lb, args := #[.func (.yield l) #[] #[]] }, W1, gf, #[.func (.yield l) #[] #[]] ++ lb, W1, ?_, ?_, ?_, ?_, fun _ => h1, ?_⟩
  · rw [← hW1, hrec, hl, hD]; exact run_enterLoop_outer _ _ _ _ _
  · simp only [resolve, hg]
    simp [go_sem]
  · intro f' hf'; simp [Target.leads] at hf'; subst hf'; exact hFg
  · simp [invoke, go_sem, eg]
  · have hTt : ∀ T' : Nat → Prop, (∀ k, T' k → k ≠ l ∧ k ≠ D) → (fun k => (T' k ∨ k = l ∨ k = D) ∧ k ≠ l ∧ k ≠ D) = T' := fun T' hT => funext fun k => propext ⟨fun h => h.1.elim id (fun h' => h'.elim (fun e => absurd e h.2.1) (fun e => absurd e h.2.2)), fun h => ⟨.inl h, hT k h⟩⟩
    refine (hseq l (fun pre T W => I pre (fun k => T k ∧ k ≠ l ∧ k ≠ D) W ∧ T l ∧ T D ∧ W.heap[l]? = some (.loop (rec .ready none)) ∧ W.heap[D]? = some (.deferred (some []))) (fun k => T0 k ∨ k = l ∨ k = D) W1 hb1 ?_ ?_ ?_ ?_ ?_).mono ?_
    · rintro s T A B ⟨hi, tl, tD, hl', hk'⟩ hh
      exact ⟨hI _ _ _ _ hi (hh.mono (fun k hk => hk.1)), tl, tD, (hh.block _ tl).trans hl', (hh.block _ tD).trans hk'⟩
    · rintro k (hk | rfl | rfl)
      · have := hT0 k hk; omega
      · omega
      · omega
    · rintro s T X ⟨hi, _⟩
      exact hRd _ _ _ hi
    · rintro pre x T W ⟨hi, tl, tD, hl', hk'⟩ hlen hkeep hTs
      have hlt : l < W.heap.size := (Array.getElem?_eq_some_iff.1 hl').1
      have hsz : W1.heap.size ≤ W.heap.size := hkeep.size
      have hkw : Keep T0 w W := ⟨hkeep.os.trans hw1.os, hkeep.tape.trans hw1.tape, hkeep.output.trans hw1.output, by omega, fun k hk =>
        (hkeep.block k ⟨by omega, fun h => h.elim hk.2 (fun h => h.elim (fun e => by omega) (fun e => by omega))⟩).trans (hw1.block k hk.1)⟩
      have hy := run_yield (P := P) (args := encs x) hl' (by rw [hrec]; exact hps x)
      rw [hrec] at hy
      have hTi : ∀ k, (T k ∧ k ≠ l ∧ k ≠ D) → (T0 k ∨ w.heap.size + 2 ≤ k) ∧ k < W.heap.size := fun k hk => by
        obtain ⟨h1, h2⟩ := hTs k hk.1
        refine ⟨?_, h2⟩
        rcases h1 with (h1 | h1 | h1) | h1
        · exact .inl h1
        · exact absurd h1 hk.2.1
        · exact absurd h1 hk.2.2
        · exact .inr (by omega)
      have hr := hround pre x (fun k => T k ∧ k ≠ l ∧ k ≠ D) W hi hlen (by omega) hTi hkw
      refine ⟨fn, _, assign, body, hy, roundIn_of_wpIn hfn ?_⟩
      rw [← hl] at hr
      refine wpIn_mono hr ?_
      rintro e a1 Wa hp
      cases e with
      | normal =>
        obtain ⟨hh1, hbody⟩ := hp
        have hla : Wa.heap[l]? = some (.loop (rec .ready none)) := (hh1.block l ⟨hlt, fun h => h.2.1 rfl⟩).trans hl'
        have hDa : Wa.heap[D]? = some (.deferred (some [])) := (hh1.block D ⟨by omega, fun h => h.2.2 rfl⟩).trans hk'
        have hlta : l < Wa.heap.size := (Array.getElem?_eq_some_iff.1 hla).1
        refine ⟨_, run_beginRound hla (by rw [hrec]), ?_⟩
        have hb2 := hbody (Wa.putObj l (.loop { rec .ready none with state := .busy })) (by simp) (Hold.putObj _ _ _)
        refine wpIn_mono hb2 ?_
        rintro e a3 W3 hp3
        cases e with
        | normal =>
          obtain ⟨T', hT', hh3, hi3⟩ := hp3
          have hl3 : W3.heap[l]? = some (.loop { rec .ready none with state := .busy }) := (hh3.block l ⟨hlt, fun h => h.2.1 rfl⟩).trans (World.putObj_heap_same hlta)
          have hD3 : W3.heap[D]? = some (.deferred (some [])) := (hh3.block D ⟨by omega, fun h => h.2.2 rfl⟩).trans ((World.putObj_heap_other (by omega)).trans hDa)
          have hlt3 : l < W3.heap.size := (Array.getElem?_eq_some_iff.1 hl3).1
          have hle3 : W.heap.size ≤ W3.heap.size := by have h1 := hh1.size; have h3 := hh3.size; simp at h3; omega
          have hne : ∀ k, T' k → k ≠ l ∧ k ≠ D := fun k hk => by
            rcases (hT' k hk).1 with h | h
            · exact h.2
            · omega
          have hend := run_endRound (P := P) none hl3
          refine ⟨_, _, hend, rfl, fun k => T' k ∨ k = l ∨ k = D, ?_, ?_, ?_, .inr (.inl rfl), .inr (.inr rfl), ?_, ?_⟩
          · rintro k (hk | rfl | rfl)
            · obtain ⟨h2, h3⟩ := hT' k hk
              exact ⟨h2.imp (fun h => h.1) id, by simpa using h3⟩
            · exact ⟨.inl tl, by simpa using hlt3⟩
            · exact ⟨.inl tD, by simp; omega⟩
          · refine ⟨hh3.os.trans hh1.os, hh3.tape.trans hh1.tape, hh3.output.trans hh1.output, by simp; omega, fun k hk => ?_⟩
            have hkl : k ≠ l := fun e => hk.2 (e ▸ tl)
            have hkn : k < W.heap.size ∧ ¬ (T k ∧ k ≠ l ∧ k ≠ D) := ⟨hk.1, fun h => hk.2 h.1⟩
            exact (World.putObj_heap_other hkl).trans ((hh3.block k hkn).trans ((World.putObj_heap_other hkl).trans (hh1.block k hkn)))
          · have := hI _ _ _ _ hi3 ((Hold.putObj W3 l (.loop { rec .ready none with state := if (none : Option Code).isNone then .ready else .done, pending := none })).mono (fun k hk => (hne k hk).1))
            rw [hTt T' hne]
            rw [hrec] at this ⊢
            exact this
          · rw [World.putObj_heap_same hlt3, hrec]; rfl
          · rw [World.putObj_heap_other (by omega)]; exact hD3
        | _ => exact hp3.elim
      | _ => exact hp.elim
    · exact ⟨by rw [hTt T0 (fun k hk => by have := hT0 k hk; omega)]; exact hI1, .inr (.inl rfl), .inr (.inr rfl), hL1, hK1⟩
    · rintro e W2 ⟨⟨v, rfl⟩, xs, T', hS, ⟨hi, tl, tD, hl2, hk2⟩, hkeep, hTs⟩
      have hsz : W1.heap.size ≤ W2.heap.size := hkeep.size
      have hend := run_endLoop (P := P) hl2 (by rw [hrec]; simp)
      have hlt2 : l < W2.heap.size := (Array.getElem?_eq_some_iff.1 hl2).1
      rw [hrec] at hend
      refine ⟨none, _, hend, ?_⟩
      refine hdone D xs (fun k => T' k ∧ k ≠ l ∧ k ≠ D) _ hD hS (hI _ _ _ _ hi ((Hold.putObj _ _ _).mono (fun k hk => hk.2.1))) ((World.putObj_heap_other (by omega)).trans hk2) ?_ ?_
      · refine ⟨hkeep.os.trans hw1.os, hkeep.tape.trans hw1.tape, hkeep.output.trans hw1.output, by simp; omega, fun k hk => ?_⟩
        exact (World.putObj_heap_other (by omega)).trans ((hkeep.block k ⟨by omega, fun h => h.elim hk.2 (fun h => h.elim (fun e => by omega) (fun e => by omega))⟩).trans (hw1.block k hk.1))
      · rintro k ⟨hk, hkl, hkD⟩
        obtain ⟨h1, h2⟩ := hTs k hk
        refine ⟨?_, by simpa using h2⟩
        rcases h1 with (h1 | h1 | h1) | h1
        · exact .inl h1
        · exact absurd h1 hkl
        · exact absurd h1 hkD
        · exact .inr (by omega)
/-- append(v, x) within a fenced walk; behind 'at_builtin'; x's cells are cs. -/
theorem R_appendIn {α : Type} (d : Kd α) {W : World} {ops : Array Oper} {rest : List Oper} {o : Oper} {a : Act} {Q : Exit → Act → World → Prop} (base : Nat) (hgd : o.guard = none) (s x : Operand) (t e : TypeId) (z : Value) (bytes : Nat)
    (ho : o.op = .call { callee := .builtin .append, args := #[s, x], argTypes := #[t, t] })
    (ht : P.underlying t = some (.slice e)) (hinfo : (P.info? e).map (fun i => (i.zero, i.size, i.bytes)) = some (some z, d.sz, bytes)) (hz : z.cells.size = d.sz) (hs0 : 0 < d.sz) (hb0 : 0 < bytes)
    (v : Value) (xs : List α) (p : α) (cs : List Value) (ok okp : Nat → Prop) (hs : a.eval s = v) (hx : a.eval x = .slice (some ⟨W.heap.size, 0, none⟩) 1 1) (hp : d.M W base okp p cs) (hokp : ∀ k, okp k → ok k ∧ some k ≠ v.ownBlock) (hfresh : ∀ k, W.heap.size ≤ k → ok k)
    (HO : d.R e W base ok v xs) (hbase : base ≤ W.heap.size) (hl : (xs.length + 1) * bytes ≤ 140737488355328)
    (h : ∀ g cap w1, d.R e w1 base ok (.slice (some ⟨g, 0, none⟩) (xs.length + 1) cap) (xs ++ [p]) → W.grownBy w1 v.ownBlock → (v.ownBlock = some g ∨ W.heap.size ≤ g) → wpListIn F n P ops Q rest (a.put o.dst (.slice (some ⟨g, 0, none⟩) (xs.length + 1) cap)) w1) :
    wpListIn F n P ops Q (o :: rest) a (W.alloc (.cells cs.toArray e)) := by
  obtain ⟨h0, inner, hown, hr⟩ := HO
  obtain ⟨i0, hi, hzz⟩ := Option.map_eq_some_iff.1 hinfo
  simp only [Prod.mk.injEq] at hzz
  obtain ⟨hz0, hz1, hz2⟩ := hzz
  have hlen : xs.length + 1 ≤ 140737488355328 := Nat.le_trans (Nat.le_mul_of_pos_right _ hb0) hl
  refine wpListIn_append_own_at (w := W.alloc (.cells cs.toArray e)) hgd s x t ho base e i0 z d.sz bytes ht hi hz0 hz1 hz2 hz hs0 v xs.length inner hs (hown.alloc _) ⟨W.heap.size, 0, none⟩ 1 1 cs hx (by rw [d.K_len (d.K_of_M hp)]; omega)
    (World.news_of_block (cs := cs.toArray) (t := e) (fr := (0, 0)) (heap_alloc_new W _)) (d.K_one (d.K_of_M hp)) (by simp only [maxLen]; omega) hl (by simp; omega) ?_
  intro v1 w1 hown1 hg1 _ hat
  have hat' : v1.ownBlock = v.ownBlock ∨ ∃ b, v1.ownBlock = some b ∧ W.heap.size ≤ b := hat.imp id (fun hb => ⟨_, hb, by simp⟩)
  have hg : W.grownBy w1 v.ownBlock := World.grownBy.trans (World.grownBy_alloc W _ _) hg1
  have hR := Kd.R_appended h0 hr hp hokp hfresh hown1 hg hat'
  obtain ⟨g, cap, rfl⟩ := ownsRow_succ hown1
  refine h g cap w1 hR hg ?_
  rcases hat' with e1 | ⟨b, e1, hle⟩
  · exact .inl (by rw [← e1]; rfl)
  · exact .inr (by have : g = b := by simpa [Value.ownBlock] using e1
                   omega)
theorem own_appendIn {W : World} {ops : Array Oper} {rest : List Oper} {o : Oper} {a : Act} {Q : Exit → Act → World → Prop} (base : Nat) (hgd : o.guard = none) (s x : Operand) (t e : TypeId) (z : Value) (size bytes : Nat)
    (ho : o.op = .call { callee := .builtin .append, args := #[s, x], argTypes := #[t, t] })
    (ht : P.underlying t = some (.slice e)) (hinfo : (P.info? e).map (fun i => (i.zero, i.size, i.bytes)) = some (some z, size, bytes)) (hz : z.cells.size = size) (hs0 : 0 < size) (hb0 : 0 < bytes)
    (v : Value) (m : Nat) (xs ys : List Value) (hs : a.eval s = v) (hx : a.eval x = .slice (some ⟨W.heap.size, 0, none⟩) 1 1) (hys : ys.length = size) (h1 : ∀ u ∈ ys, u.oneCell' = true)
    (HO : W.ownsRow base e size v m xs) (hbase : base ≤ W.heap.size) (hl : (m + 1) * bytes ≤ 140737488355328)
    (h : ∀ g cap w1, w1.ownsRow base e size (.slice (some ⟨g, 0, none⟩) (m + 1) cap) (m + 1) (xs ++ ys) → (W.alloc (.cells ys.toArray e)).grownBy w1 v.ownBlock → (v.ownBlock = some g ∨ W.heap.size + 1 ≤ g) → wpListIn F n P ops Q rest (a.put o.dst (.slice (some ⟨g, 0, none⟩) (m + 1) cap)) w1) :
    wpListIn F n P ops Q (o :: rest) a (W.alloc (.cells ys.toArray e)) := by
  obtain ⟨i0, hi, hzz⟩ := Option.map_eq_some_iff.1 hinfo
  simp only [Prod.mk.injEq] at hzz
  obtain ⟨hz0, hz1, hz2⟩ := hzz
  have hlen : m + 1 ≤ 140737488355328 := Nat.le_trans (Nat.le_mul_of_pos_right _ hb0) hl
  refine wpListIn_append_own_at (w := W.alloc (.cells ys.toArray e)) hgd s x t ho base e i0 z size bytes ht hi hz0 hz1 hz2 hz hs0 v m xs hs (HO.alloc _) ⟨W.heap.size, 0, none⟩ 1 1 ys hx (by omega)
    (World.news_of_block (cs := ys.toArray) (t := e) (fr := (0, 0)) (heap_alloc_new W _)) h1 (by simp only [maxLen]; omega) hl (by simp; omega) ?_
  intro v1 w1 hown1 hg1 _ hat
  obtain ⟨g, cap, rfl⟩ := ownsRow_succ hown1
  refine h g cap w1 hown1 hg1 ?_
  rcases hat with e1 | e1
  · exact .inl (by rw [← e1]; rfl)
  · exact .inr (by have : g = (W.alloc (.cells ys.toArray e)).heap.size := by simpa [Value.ownBlock] using e1
                   simp at this; omega)
/-! A scope that nothing leaves by a goto. -/
theorem stepR_scope {P : Program} {b : Frame} {a : Act} {k : List Item} {cs : List Frame} {w : World} {c : Code} : step P (lone (b.atR a (.code (.scope c) :: k)) cs w) = .next (lone (b.atR a (.code c :: .inScope c :: k)) cs w) :=
  step_lone_go (by simp [stepG, stepG.exec, Frame.atR])
theorem stepR_inScope {P : Program} {b : Frame} {a : Act} {k : List Item} {cs : List Frame} {w : World} {c : Code} : step P (lone (b.atR a (.inScope c :: k)) cs w) = .next (lone (b.atR a k) cs w) :=
  step_lone_go (by simp [stepG, stepG.exec, Frame.atR])
theorem wpIn_scope_straight {F : Fence} {n : Nat} {P : Program} {Q : Exit → Act → World → Prop} {a : Act} {w : World} {c : Code} (h : c.wpIn F n P (Exit.noGoto Q) a w) : (Code.scope c).wpIn F n P Q a w := by
  intro b k cs hro hb hr
  have h0 : (lone (b.atR a (.code (.scope c) :: k)) cs w).fenced P F := fenced_calm hb hr rfl
  obtain ⟨e, a₁, w₁, hq, harr⟩ := h b (.inScope c :: k) cs hro hb hr
  cases e with
  | normal => exact ⟨.normal, a₁, w₁, hq, .head h0 stepR_scope (StepsIn.trans harr (.one (fenced_calm hb hr rfl) stepR_inScope))⟩
  | exit id =>
    have hx : exitTo id (.inScope c :: k) = exitTo id k := by simp [exitTo]
    exact ⟨_, a₁, w₁, hq, fun k' hk => .head h0 stepR_scope (harr.1 k' (by rw [hx]; exact hk)), fun hr' hk => let ⟨k₁, h1, h2⟩ := harr.2 hr' (by rw [hx]; exact hk); ⟨k₁, h1, .head h0 stepR_scope h2⟩⟩
  | goto l => exact hq.elim
  | ret => exact ⟨_, a₁, w₁, hq, .of_steps (.one h0 stepR_scope) harr⟩
  | panic ch => exact ⟨_, a₁, w₁, hq, .of_steps (.one h0 stepR_scope) harr⟩
  | outgrown => exact ⟨_, a₁, w₁, hq, .of_steps (.one h0 stepR_scope) harr⟩
end Go.Proofs.YtojmepkhbebllaaDoor.Iter
