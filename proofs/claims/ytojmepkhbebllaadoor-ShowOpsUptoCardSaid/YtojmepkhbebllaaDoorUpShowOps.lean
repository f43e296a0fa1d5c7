/- Each step's text: proved where the step's text and list together are of at most 1,048,576 letters and numbers. -/
import Derived.Test.YtojmepkhbebllaaDoorShowBShowOps
set_option linter.unusedVariables false
namespace Go.Proofs.YtojmepkhbebllaaDoor.Pure
open Go Go.RowKit Go.Proofs.YtojmepkhbebllaaDoorW.PrintWords Go.Proofs.YtojmepkhbebllaaDoorW.PrintLast Go.Proofs.YtojmepkhbebllaaDoorW.PrintMore Go.Proofs.YtojmepkhbebllaaDoor.PShowOps Go.Proofs.YtojmepkhbebllaaDoor.BaseShowOps Go.Proofs.YtojmepkhbebllaaDoor.SizeShowOps Go.Proofs.YtojmepkhbebllaaDoor.ShowBShowOps
theorem op_is (K a b c n : Int) (s : ByteArray) (l : List Int) (st : Bool) (hs : s.size ≤ 1099511627776) (hl : l.length ≤ 68719476736) (hi : ∀ x ∈ l, inI64 x) (ha : inI64 a) (hb : inI64 b) (hc : inI64 c) (hn : inI64 n) :
    show_Op.f K a b c n s l st = some (refOp K a b c n s l st) := by
  unfold show_Op.f show_op.f
  rw [if_pos ⟨⟨hs, hl, hi⟩, ha, hb, hc, hn⟩, same_op]; rfl
theorem lives_is : hallmarklaw06_lives.f = some true := by
  unfold hallmarklaw06_lives.f
  rw [op_is 3 1 2 0 0 _ _ _ (by decide) (by decide) (by intro x hx; cases hx) (by decide) (by decide) (by decide) (by decide), Option.bind_some, ← same_op]
  have e : (fieldsL 3).data.toList = [78, 65, 66] := by decide +kernel
  have e1 : shD 1 = ⟨#[49]⟩ := one_digit 1 (by decide)
  have e2 : shD 2 = ⟨#[50]⟩ := one_digit 2 (by decide)
  unfold outS
  rw [e]
  simp only [List.foldl_cons, List.foldl_nil, stepS, e1, e2, ne_65_78, ne_65_83, ne_66_78, ne_66_83, ne_66_65, if_false, reduceIte]
  decide +kernel
theorem in_i64 {x : Int} (h : (Lit.int .i64 x).wf = true) : inI64 x := by
  have := range h
  exact ⟨this.1, by omega⟩
theorem upto (a0_0 a0_1 a0_2 a0_3 a0_4 : Int) (a0_5 : ByteArray) (l0_6 : List Int) (a0_7 : Bool) (h0 : (Lit.int .i64 a0_0).wf = true) (h1 : (Lit.int .i64 a0_1).wf = true) (h2 : (Lit.int .i64 a0_2).wf = true) (h3 : (Lit.int .i64 a0_3).wf = true) (h4 : (Lit.int .i64 a0_4).wf = true) (h6 : ∀ y ∈ l0_6, (Lit.int .i64 y).wf = true) (b5 : a0_5.size ≤ 1099511627776) (b6 : l0_6.length ≤ 68719476736) : ∃ k : Nat, hallmarklaw06_ShowOps.f k a0_0 a0_1 a0_2 a0_3 a0_4 a0_5 l0_6 a0_7 = some true := by
  obtain ⟨k, hk⟩ := (Op_ev a0_0 a0_1 a0_2 a0_3 a0_4 a0_5 l0_6 a0_7 b5 b6 (fun x hx => in_i64 (h6 x hx)) (in_i64 h1) (in_i64 h2) (in_i64 h3) (in_i64 h4)).rounds
  refine ⟨k, ?_⟩
  unfold hallmarklaw06_ShowOps.f
  rw [op_is a0_0 a0_1 a0_2 a0_3 a0_4 a0_5 l0_6 a0_7 b5 b6 (fun x hx => in_i64 (h6 x hx)) (in_i64 h1) (in_i64 h2) (in_i64 h3) (in_i64 h4), Option.bind_some, hk, Option.bind_some, if_pos rfl, lives_is]
  rfl
end Go.Proofs.YtojmepkhbebllaaDoor.Pure
