/- ShowProgs: a program's text, and each of its functions', is the document's. -/
import Derived.Test.YtojmepkhbebllaaDoorShowBShowProgs
import Derived.Test.YtojmepkhbebllaaDoorSmallShowProgs
set_option linter.unusedVariables false
set_option linter.unusedSimpArgs false
namespace Go.Proofs.YtojmepkhbebllaaDoor.BaseShowProgs.Last
open Go Go.RowKit Go.Proofs.YtojmepkhbebllaaDoorW.PrintWords Go.Proofs.YtojmepkhbebllaaDoorW.PrintLast Go.Proofs.YtojmepkhbebllaaDoorW.PrintMore Go.Proofs.YtojmepkhbebllaaDoor.PShowProgs Go.Proofs.YtojmepkhbebllaaDoor.BaseShowProgs Go.Proofs.YtojmepkhbebllaaDoor.SizeShowProgs Go.Proofs.YtojmepkhbebllaaDoor.ShowBShowProgs
open Go.Proofs.YtojmepkhbebllaaDoor.SmallShowProgs hiding ev_step
theorem op_is (K a b c n : Int) (s : ByteArray) (l : List Int) (st : Bool) (hs : s.size ≤ 1099511627776) (hl : l.length ≤ 68719476736) (hi : ∀ x ∈ l, inI64 x) (ha : inI64 a) (hb : inI64 b) (hc : inI64 c) (hn : inI64 n) :
    show_Op.f K a b c n s l st = some (refOp K a b c n s l st) := by
  unfold show_Op.f show_op.f
  rw [if_pos ⟨⟨hs, hl, hi⟩, ha, hb, hc, hn⟩, same_op]; rfl
theorem lives_is : hallmarklaw06_lives.f = some true := by
  unfold hallmarklaw06_lives.f
  rw [op_is 3 1 2 0 0 _ _ _ (by decide) (by decide) (by intro x hx; cases hx) (by decide) (by decide) (by decide) (by decide), Option.bind_some, ← same_op]
  have e : (fieldsL 3).data.toList = [78, 65, 66] := by decide +kernel
  have e1 : shD 1 = ⟨#[49]⟩ := one_digit 1 (by decide)
  have e2 : shD 2 = ⟨#[50]⟩ := one_digit 2 (by decide)
  unfold outS
  rw [e]
  simp only [List.foldl_cons, List.foldl_nil, stepS, e1, e2, ne_65_78, ne_65_83, ne_66_78, ne_66_83, ne_66_65, if_false, reduceIte]
  decide +kernel
theorem in_i64 {x : Int} (h : (Lit.int .i64 x).wf = true) : inI64 x := by
  have := range h
  exact ⟨this.1, by omega⟩
theorem mem_sum {α : Type} (g : α → Nat) : ∀ (l : List α) (x : α), x ∈ l → g x ≤ (l.map g).sum
  | y :: l, x, h => by
    rw [List.map_cons, List.sum_cons]
    rcases List.mem_cons.1 h with rfl | h
    · omega
    · have := mem_sum g l x h; omega
theorem v_op {o : S24} (h : V24 o) : opV o := ⟨by have := h.2.2.2.2.2.2.1.1; omega, by have := h.2.2.2.2.2.1; omega⟩
theorem v_block {b : S59} (h : V59 b) : blockV b :=
  ⟨by have := h.1.1; omega, by have := h.2.1.1; omega, by have := h.2.2.2.2.2.2.1.1; omega, by have := h.2.2.2.2.2.2.2.1; omega, fun o ho => v_op (h.2.1.2.2 o ho)⟩
theorem v_fun {f : S44} (h : V44 f) : funV f := ⟨by have := h.2.1; omega, fun b hb => v_block (h.2.2.2 b hb)⟩
theorem op_ok {o : S24} (h : V24 o) (hs : opN o ≤ 1500) : opOk o := by
  unfold opN at hs
  exact ⟨⟨by omega, by omega, fun x hx => in_i64 (h.2.2.2.2.2.2.1.2.2 x hx)⟩, in_i64 h.2.1, in_i64 h.2.2.1, in_i64 h.2.2.2.1, in_i64 h.2.2.2.2.1⟩
theorem block_ok {b : S59} (h : V59 b) (hs : blockN b ≤ 1500) : blockOk b := by
  unfold blockN at hs
  refine ⟨⟨by omega, fun x hx => in_i64 (h.1.2.2 x hx)⟩, ⟨by omega, fun o ho => ?_⟩, ⟨by omega, fun x hx => in_i64 (h.2.2.2.2.2.2.1.2.2 x hx)⟩, ⟨by omega, fun x hx => in_i64 (h.2.2.2.2.2.2.2.2.2 x hx)⟩, in_i64 h.2.2.2.1, in_i64 h.2.2.2.2.1, in_i64 h.2.2.2.2.2.1⟩
  have := mem_sum opN b.f1 o ho
  unfold opsN at hs
  exact op_ok (h.2.1.2.2 o ho) (by omega)
theorem fun_ok {f : S44} (h : V44 f) (hs : funN f ≤ 1500) : funOk f := by
  unfold funN at hs
  refine ⟨in_i64 h.1, by omega, fun b hb => ?_⟩
  have := mem_sum blockN f.f1 b hb
  unfold blocksN at hs
  exact block_ok (h.2.2.2 b hb) (by omega)
theorem blocksL_fine : ∀ (l : List (S59)) (i n : Int), 0 ≤ i → i + l.length ≤ 4096 → 0 ≤ n → n ≤ i * 4096 → (∀ b ∈ l, blockOk b) → (blocksL i n l).length ≤ (l.length + blocksN l) * 1100000
  | [], i, n, _, _, _, _, _ => by simp [blocksL]
  | b :: l, i, n, h0, h1, h2, h3, h => by
    obtain ⟨⟨p1, p2⟩, ⟨o1, o2⟩, q1, q2, q3, q4, q5⟩ := h b List.mem_cons_self
    have h1' : i + ((l.length : Int) + 1) ≤ 4096 := by simpa using h1
    have hds := shD_size i ⟨by omega, by omega⟩
    have hbt := brt_small b.f0 p1 p2
    have hes := endS_small b.f2.f0 b.f2.f1 b.f2.f2 b.f2.f3 b.f2.f4 b.f2.f5 q1 q2 q3 q4 q5
    have hol := opsL_len b.f1 (n + b.f0.length) (by omega) (by omega) o2
    have eb : (bl (brS tF b.f0)).length = (brS tF b.f0).size := by unfold bl; simp
    have ee : (bl (endS b.f2.f0 b.f2.f1 b.f2.f2 b.f2.f3 b.f2.f4 b.f2.f5)).length = (endS b.f2.f0 b.f2.f1 b.f2.f2 b.f2.f3 b.f2.f4 b.f2.f5).size := by unfold bl; simp
    have ei : (bl (shD i)).length = (shD i).size := by unfold bl; simp
    have ih := blocksL_fine l (i + 1) (n + b.f0.length + b.f1.length) (by omega) (by omega) (by omega) (by omega) (fun x hx => h x (List.mem_cons_of_mem _ hx))
    have hn : blocksN (b :: l) = blockN b + blocksN l := by unfold blocksN; rw [List.map_cons, List.sum_cons]
    have hbn : b.f1.length ≤ blockN b := by unfold blockN; omega
    simp only [blocksL, blockL, endL, List.length_append, List.length_cons, List.length_nil] at ih ⊢
    rw [hn]
    omega
theorem funL_fine (f : S44) (h : funOk f) : (funL f).length ≤ (1 + funN f) * 1100000 := by
  obtain ⟨h1, h2, h3⟩ := h
  have hs := tF_size f.f0 h1
  have et : (bl (tF f.f0)).length = (tF f.f0).size := by unfold bl; simp
  have hb := blocksL_fine f.f1 0 0 (by omega) (by omega) (by omega) (by omega) h3
  have hn : funN f = f.f1.length + blocksN f.f1 := rfl
  unfold funL; simp only [List.length_append, List.length_cons, List.length_nil]; omega
theorem funsL_fine : ∀ (l : List (S44)), (∀ f ∈ l, funOk f) → (l.flatMap funL).length ≤ (l.length + funsN l) * 1100000
  | [], _ => by simp
  | f :: l, h => by
    have h1 := funL_fine f (h f List.mem_cons_self)
    have h2 := funsL_fine l (fun y hy => h y (List.mem_cons_of_mem _ hy))
    have hn : funsN (f :: l) = funN f + funsN l := by unfold funsN; rw [List.map_cons, List.sum_cons]
    rw [List.flatMap_cons, List.length_append, List.length_cons, hn]
    omega
theorem loop (ss : List (S52)) (cs : List (S54)) (fs : List (S44)) (hl : fs.length ≤ 2048) (hok : ∀ f ∈ fs, funOk f) : ∀ (d i : Nat), d + i = fs.length → Ev (fun k => hallmarklaw06_ShowProgs.l0 k (i : Int) ss cs fs) true := by
  intro d
  induction d with
  | zero =>
    intro i hd
    have c1 : ¬ ((i : Int) < (fs.length : Int)) := by omega
    refine ev_step (fun k => hallmarklaw06_ShowProgs.l0.eq_2 ..) ?_
    refine Ev.congr (fun k => by rw [if_neg c1, lives_is, Option.bind_some]) (Ev.now _)
  | succ d ih =>
    intro i hd
    have hlt : i < fs.length := by omega
    have c1 : (i : Int) < (fs.length : Int) := by omega
    have c2 : 0 ≤ (i : Int) := by omega
    have hrd : rd_T44 fs (i : Int) = fs[i] := by
      unfold rd_T44
      rw [Int.toNat_natCast, List.getD_eq_getElem?_getD, List.getElem?_eq_getElem hlt, Option.getD_some]
    have ho := hok _ (List.getElem_mem hlt)
    obtain ⟨f, hf⟩ : ∃ f, fs[i] = f := ⟨_, rfl⟩
    rw [hf] at hrd ho
    have hlen := funL_len f ho
    have e1 : show_Func.f f.f0 f.f1 = some (mk (funL f)) := by
      unfold show_Func.f
      rw [if_pos ⟨ho, by show (funL f).length ≤ _; omega⟩]; rfl
    have q5 := sm_next i (by omega)
    refine ev_step (fun k => hallmarklaw06_ShowProgs.l0.eq_2 ..) ?_
    refine Ev.congr (fun k => by rw [if_pos c1, if_pos c2, hrd, e1, Option.bind_some]) ?_
    refine Ev.bind (Func_ev f ho) ?_
    refine Ev.congr (fun k => by rw [if_pos rfl, q5]) ?_
    exact ih (i + 1) (by omega)
theorem law : hallmarklaw06_ShowProgs.Pure := by
  intro ss cs fs h0 h1 h2
  obtain ⟨a0, _, v0⟩ := h0
  obtain ⟨a1, _, v1⟩ := h1
  obtain ⟨a2, _, v2⟩ := h2
  have hsm := Small_ev 1500 (by decide) (by decide) ss cs fs (by omega) (fun s hs => by have := (v0 s hs).1.1; omega) (by omega) (fun s hs => ⟨by have := (v1 s hs).1.1; omega, by have := (v1 s hs).2.1; omega⟩) (by omega) (fun f hf => v_fun (v2 f hf))
  have key : Ev (fun k => hallmarklaw06_ShowProgs.f k ss cs fs) true := by
    unfold hallmarklaw06_ShowProgs.f
    refine Ev.bind hsm ?_
    by_cases hp : partsN ss cs fs ≤ 1500
    · have hpi : ((partsN ss cs fs : Nat) : Int) ≤ 1500 := by omega
      have hpt := decide_eq_true hpi
      unfold partsN at hp
      have hfn : ∀ f ∈ fs, funN f ≤ 1500 := fun f hf => by have := mem_sum funN fs f hf; unfold funsN at hp; omega
      have okf : ∀ f ∈ fs, funOk f := fun f hf => fun_ok (v2 f hf) (hfn f hf)
      have oks : ∀ s ∈ ss, sigOk s := fun s hs => ⟨by have := mem_sum (fun s : S52 => s.f0.length) ss s hs; unfold sigsN at hp; omega, fun x hx => in_i64 ((v0 s hs).1.2.2 x hx), in_i64 (v0 s hs).2⟩
      have okc : ∀ c ∈ cs, clsOk c := fun c hc => by
        have := mem_sum clsN cs c hc
        unfold clssN at hp
        have e : clsN c = c.f0.length + c.f1.length := rfl
        exact ⟨by omega, fun x hx => in_i64 ((v1 c hc).1.2.2 x hx), by omega, fun x hx => in_i64 ((v1 c hc).2.2.2 x hx)⟩
      have b0 := flat_len sigL 300000 ss (fun s hs => sigL_len s (oks s hs))
      have b1 := flat_len clsL 300000 cs (fun s hs => clsL_len s (okc s hs))
      have b2 := funsL_fine fs okf
      have hlen : (progL ss cs fs).length ≤ 140737488355328 := by
        unfold progL
        rw [List.length_append, List.length_append]
        omega
      have e1 : show_Prog.f ss cs fs = some (mk (progL ss cs fs)) := by
        unfold show_Prog.f
        rw [if_pos ⟨⟨by omega, oks⟩, ⟨by omega, okc⟩, ⟨by omega, okf⟩, hlen⟩]; rfl
      refine Ev.congr (fun k => by rw [if_pos hpt, e1, Option.bind_some]) ?_
      refine Ev.bind (Prog_ev ss cs fs (by omega) oks (by omega) okc (by omega) okf) ?_
      refine Ev.congr (fun k => by rw [if_pos rfl]) ?_
      exact loop ss cs fs (by omega) okf fs.length 0 (by omega)
    · have hpi : ¬ (((partsN ss cs fs : Nat) : Int) ≤ 1500) := by omega
      have hpt := decide_eq_false hpi
      refine Ev.congr (fun k => by rw [hpt, if_neg (by simp), lives_is, Option.bind_some]) (Ev.now _)
  exact key.rounds
end Go.Proofs.YtojmepkhbebllaaDoor.BaseShowProgs.Last
namespace Go.Proofs.YtojmepkhbebllaaDoor.Pure
open Go.Proofs.YtojmepkhbebllaaDoor.PShowProgs
theorem ShowProgs : hallmarklaw06_ShowProgs.Pure := Go.Proofs.YtojmepkhbebllaaDoor.BaseShowProgs.Last.law
end Go.Proofs.YtojmepkhbebllaaDoor.Pure
