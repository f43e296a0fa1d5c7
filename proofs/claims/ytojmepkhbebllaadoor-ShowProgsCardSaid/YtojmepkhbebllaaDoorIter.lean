
/- A range over a function whose rounds all go on, and whose iterator may have cells of its own: the iterator's contract; the law of the statement. -/
import Derived.RangeFuncNested
import Derived.RangeFuncBound
import Derived.RangeFuncCalls
import Derived.RangeFuncLeaves
import Derived.Shelf.Abstract
import Derived.Shelf.RegionOpen
import Derived.WalkKit
import Derived.OwnWalkIn
import Derived.TacticsInMore
import Derived.LoopNIn
import Derived.LoopIn
import Derived.WalkMore
import Derived.Sort.LoopGhostIn
import Derived.Sort.CutIn
import Derived.Stop.RegionWithIn
import Derived.RangeFuncBox
import Derived.Maps.OwnIn
import Derived.Test.YtojmepkhbebllaaDoorWMore
set_option linter.unusedVariables false
namespace Go.Proofs.YtojmepkhbebllaaDoor.Iter
open Go Go.RowKit Go.Proofs.YtojmepkhbebllaaDoorW.PrintWords

/-- What T holds lies as it lay. -/
structure Hold (T : Nat → Prop) (A B : World) : Prop where
  os : B.os = A.os
  tape : B.tape = A.tape
  output : B.output = A.output
  size : A.heap.size ≤ B.heap.size
  block : ∀ k, T k → B.heap[k]? = A.heap[k]?
/-- All that was there lies as it lay, but T. -/
abbrev Keep (T : Nat → Prop) (A B : World) : Prop := Hold (fun k => k < A.heap.size ∧ ¬ T k) A B
theorem Hold.refl (T : Nat → Prop) (A : World) : Hold T A A := ⟨rfl, rfl, rfl, Nat.le_refl _, fun _ _ => rfl⟩
theorem Hold.trans {T : Nat → Prop} {A B C : World} (h : Hold T A B) (k : Hold T B C) : Hold T A C :=
  ⟨k.os.trans h.os, k.tape.trans h.tape, k.output.trans h.output, Nat.le_trans h.size k.size, fun i hi => (k.block i hi).trans (h.block i hi)⟩
theorem Hold.mono {T T' : Nat → Prop} {A B : World} (h : Hold T A B) (hs : ∀ k, T' k → T k) : Hold T' A B := ⟨h.os, h.tape, h.output, h.size, fun k hk => h.block k (hs k hk)⟩
theorem Keep.then_ {T0 T : Nat → Prop} {A B C : World} (h : Keep T0 A B) (k : Keep T B C) (hs : ∀ k, T k → T0 k ∨ A.heap.size ≤ k) : Keep T0 A C :=
  Hold.trans h ⟨k.os, k.tape, k.output, k.size, fun i hi => k.block i ⟨Nat.lt_of_lt_of_le hi.1 h.size, fun hT => (hs i hT).elim hi.2 (fun hle => by have := hi.1; omega)⟩⟩
theorem Hold.alloc {T : Nat → Prop} {A B : World} (h : Hold T A B) (o : Obj) (hT : ∀ k, T k → k < B.heap.size) : Hold T A (B.alloc o) :=
  h.trans ⟨rfl, rfl, rfl, by simp, fun k hk => Below.heap_alloc B o k (hT k hk)⟩
theorem Keep.alloc {T : Nat → Prop} {A B : World} (h : Keep T A B) (o : Obj) : Keep T A (B.alloc o) := Hold.alloc h o (fun k hk => Nat.lt_of_lt_of_le hk.1 h.size)
theorem Hold.drew {T : Nat → Prop} {A B : World} (h : Hold T A B) : Hold T A B.drew := ⟨h.os, h.tape, h.output, h.size, h.block⟩
theorem Hold.drewN {T : Nat → Prop} {A B : World} (h : Hold T A B) (m : Nat) : Hold T A (B.drewN m) := ⟨h.os, h.tape, h.output, h.size, h.block⟩
theorem Hold.setCell {T : Nat → Prop} {A B : World} (h : Hold T A B) (p : Addr) (u : Value) (hp : ¬ T p.block) : Hold T A (B.setCell p u) :=
  h.trans ⟨rfl, rfl, rfl, by simp [World.setCell], fun k hk => Below.heap_setCell B p u k (fun e => hp (e ▸ hk))⟩
theorem Hold.grown {T : Nat → Prop} {A B C : World} (h : Hold T A B) {row : Option Nat} (hg : B.grownBy C row) (hlt : ∀ k, T k → k < B.heap.size) (hr : ∀ k, T k → some k ≠ row) : Hold T A C :=
  h.trans ⟨hg.os, hg.tape, hg.output, hg.size, fun k hk => hg.block k (hlt k hk) (hr k hk)⟩
theorem Hold.of_below {T : Nat → Prop} {A B : World} {n : Nat} (h : Below n A B) (hT : ∀ k, T k → k < n) : Hold T A B := ⟨h.os, h.tape, h.output, h.size, fun k hk => h.block k (hT k hk)⟩
theorem Hold.below_ {T : Nat → Prop} {A B : World} {n : Nat} (h : Hold T A B) (hT : ∀ k, k < n → T k) : Below n A B := ⟨h.os, h.tape, h.output, h.size, fun k hk => h.block k (hT k hk)⟩
theorem Keep.of_below {T : Nat → Prop} {A B : World} (h : Below A.heap.size A B) : Keep T A B := Hold.of_below h (fun k hk => hk.1)
theorem Keep.below {T : Nat → Prop} {A B : World} {n : Nat} (h : Keep T A B) (hn : n ≤ A.heap.size) (hT : ∀ k, T k → n ≤ k) : Below n A B :=
  ⟨h.os, h.tape, h.output, h.size, fun k hk => h.block k ⟨by omega, fun hk2 => by have := hT k hk2; omega⟩⟩
theorem Hold.cell {T : Nat → Prop} {A B : World} (h : Hold T A B) {a : Addr} {v : Value} (hc : A.cell? a = some v) (ha : T a.block) : B.cell? a = some v :=
  (World.cell?_of_block (h.block _ ha)).trans hc
theorem Hold.frozen {T : Nat → Prop} {A B : World} (h : Hold T A B) {a : Addr} {v : Bool} (hc : A.frozen? a = v) (ha : T a.block) : B.frozen? a = v :=
  (World.frozen?_of_block (h.block _ ha)).trans hc
theorem Hold.row {α : Type} {d : Kd α} {T ok : Nat → Prop} {A B : World} {e base : Nat} {v : Value} {xs : List α} (h : Hold T A B) (hr : d.R e A base ok v xs) (hT : ∀ k, ok k → T k) : d.R e B base ok v xs :=
  Kd.R_move hr (fun k hk => h.block k (hT k hk))

def Stable {α : Type} (J : List α → (Nat → Prop) → World → Prop) : Prop := ∀ s T A B, J s T A → Hold T A B → J s T B

/-- The iterator's contract: R: what it reads (nobody else's to write); G: what is known of a round. -/
def Gives {α : Type} (F : Fence) (n : Nat) (P : Program) (g : Nat) (lb : Array Value) (encs : α → Array Value) (R : Nat → Prop) (S : List α → Prop) (G : List α → α → Prop) (w : World) : Prop :=
  ∀ (l : Nat) (J : List α → (Nat → Prop) → World → Prop) (T0 : Nat → Prop) (W : World), Below w.heap.size w W → Stable J → (∀ k, T0 k → k < W.heap.size ∧ ¬ R k) →
    (∀ pre x T W1, J pre T W1 → G pre x → Keep T0 W W1 → (∀ k, T k → (T0 k ∨ W.heap.size ≤ k) ∧ k < W1.heap.size) →
      YieldAt F (n - 1) P l (encs x) W1 fun e W' => e = .returned (.bool true) ∧ ∃ T', (∀ k, T' k → (T k ∨ W1.heap.size ≤ k) ∧ k < W'.heap.size) ∧ Keep T W1 W' ∧ J (pre ++ [x]) T' W') →
    J [] T0 W →
    CallsIn F n P g (#[.func (.yield l) #[] #[]] ++ lb) W fun e W' => (∃ v, e = .returned v) ∧ ∃ xs T', S xs ∧ J xs T' W' ∧ Keep T0 W W' ∧ (∀ k, T' k → (T0 k ∨ W.heap.size ≤ k) ∧ k < W'.heap.size)

/-- The same, where what the iterator reads may be written by the rounds: each world that a round may find or leave must be one that it can read on in (Rd). -/
def GivesW {α : Type} (F : Fence) (n : Nat) (P : Program) (g : Nat) (lb : Array Value) (encs : α → Array Value) (Rd : World → Prop) (S : List α → Prop) (G : List α → α → Prop) (w : World) : Prop :=
  ∀ (l : Nat) (J : List α → (Nat → Prop) → World → Prop) (T0 : Nat → Prop) (W : World), Below w.heap.size w W → Stable J → (∀ k, T0 k → k < W.heap.size) → (∀ s T X, J s T X → Rd X) →
    (∀ pre x T W1, J pre T W1 → G pre x → Keep T0 W W1 → (∀ k, T k → (T0 k ∨ W.heap.size ≤ k) ∧ k < W1.heap.size) →
      YieldAt F (n - 1) P l (encs x) W1 fun e W' => e = .returned (.bool true) ∧ ∃ T', (∀ k, T' k → (T k ∨ W1.heap.size ≤ k) ∧ k < W'.heap.size) ∧ Keep T W1 W' ∧ J (pre ++ [x]) T' W') →
    J [] T0 W →
    CallsIn F n P g (#[.func (.yield l) #[] #[]] ++ lb) W fun e W' => (∃ v, e = .returned v) ∧ ∃ xs T', S xs ∧ J xs T' W' ∧ Keep T0 W W' ∧ (∀ k, T' k → (T0 k ∨ W.heap.size ≤ k) ∧ k < W'.heap.size)

/-- How a round's body must end. -/
def roundEnd {α : Type} (I : List α → (Nat → Prop) → World → Prop) (xs : List α) (T : Nat → Prop) (W W2 : World) : Exit → Act → World → Prop
  | .normal, _, W3 => ∃ T', (∀ k, T' k → (T k ∨ W.heap.size ≤ k) ∧ k < W3.heap.size) ∧ Hold (fun k => k < W.heap.size ∧ ¬ T k) W2 W3 ∧ I xs T' W3
  | _, _, _ => False

variable {F : Fence} {n : Nat} {P : Program}
/-! A scope that nothing leaves by a goto. -/
end Go.Proofs.YtojmepkhbebllaaDoor.Iter
