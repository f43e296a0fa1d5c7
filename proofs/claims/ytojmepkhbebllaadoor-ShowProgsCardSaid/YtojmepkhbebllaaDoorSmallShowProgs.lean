/- What ref05.Small comes to: how many parts a program has. -/
import Derived.Test.YtojmepkhbebllaaDoorSizeShowProgs
set_option linter.unusedVariables false
set_option linter.unusedSimpArgs false
namespace Go.Proofs.YtojmepkhbebllaaDoor.SmallShowProgs
open Go Go.RowKit Go.Proofs.YtojmepkhbebllaaDoorW.PrintWords Go.Proofs.YtojmepkhbebllaaDoorW.PrintLast Go.Proofs.YtojmepkhbebllaaDoorW.PrintMore Go.Proofs.YtojmepkhbebllaaDoor.PShowProgs Go.Proofs.YtojmepkhbebllaaDoor.BaseShowProgs
theorem ev_step {α : Type} {g f : Nat → Option α} {r : α} (h : ∀ k, g (k + 1) = f k) (k : Ev f r) : Ev g r := Ev.step h k
theorem ev_eq {α : Type} {g : Nat → Option α} {r r' : α} (h : Ev g r) (e : r = r') : Ev g r' := e ▸ h
/-! ### ref05.Small, plainly: how many parts a program has, and whether that is at most so many -/
def opN (o : S24) : Nat := o.f6.length + o.f5.size / 8
def opsN (l : List (S24)) : Nat := (l.map opN).sum
def blockN (b : S59) : Nat := b.f0.length + b.f1.length + b.f2.f4.length + b.f2.f5.length + opsN b.f1
def blocksN (l : List (S59)) : Nat := (l.map blockN).sum
def funN (f : S44) : Nat := f.f1.length + blocksN f.f1
def funsN (l : List (S44)) : Nat := (l.map funN).sum
def clsN (c : S54) : Nat := c.f0.length + c.f1.length
def clssN (l : List (S54)) : Nat := (l.map clsN).sum
def sigsN (l : List (S52)) : Nat := (l.map (fun s => s.f0.length)).sum
def partsN (ss : List (S52)) (cs : List (S54)) (fs : List (S44)) : Nat := ss.length + cs.length + fs.length + (sigsN ss + (clssN cs + funsN fs))
def LL : Nat := 140737488355328
def opV (o : S24) : Prop := o.f6.length ≤ 140737488355328 ∧ o.f5.size ≤ 140737488355328
def blockV (b : S59) : Prop := b.f0.length ≤ 140737488355328 ∧ b.f1.length ≤ 140737488355328 ∧ b.f2.f4.length ≤ 140737488355328 ∧ b.f2.f5.length ≤ 140737488355328 ∧ ∀ o ∈ b.f1, opV o
def funV (f : S44) : Prop := f.f1.length ≤ 140737488355328 ∧ ∀ b ∈ f.f1, blockV b
theorem sm_wrap {x : Int} (h0 : -9223372036854775808 ≤ x) (h1 : x ≤ 9223372036854775807) : wrap64 x = x := by unfold wrap64; omega
theorem sm_next (i : Nat) (h : i ≤ 140737488355328) : wrap64 ((i : Int) + 1) = ((i + 1 : Nat) : Int) := by rw [sm_wrap (by omega) (by omega)]; omega
theorem sm_dec {a b : Prop} [Decidable a] [Decidable b] (h : a ↔ b) : decide a = decide b := decide_eq_decide.2 h
theorem small_l4 (m x8 x9 : Int) (hm0 : 0 ≤ m) (hm : m ≤ 1099511627776) (ss : List (S52)) (cs : List (S54)) (fs : List (S44)) (ps : List Int) (ops : List (S24)) (e0 e1 e2 e3 : Int) (el em : List Int) (hl : ops.length ≤ 140737488355328) (hv : ∀ o ∈ ops, opV o) (R : Nat)
    (cont : ∀ y : Int, 0 ≤ y → y ≤ m + 1125899906842624 → Ev (fun k => hallmarkref05_Small.l3 k m y x8 (wrap64 (x9 + 1)) ss cs fs) (decide (y + R ≤ m))) :
    ∀ (d j : Nat), d + j = ops.length → ∀ x : Int, 0 ≤ x → x ≤ m + 1125899906842624 → Ev (fun k => hallmarkref05_Small.l4 k m x x8 x9 (j : Int) ss cs fs ps ops e0 e1 e2 e3 el em) (decide (x + ((opsN (ops.drop j) + R : Nat) : Int) ≤ m)) := by
  intro d
  induction d with
  | zero =>
    intro j hd x h0 h1
    have hdr : ops.drop j = [] := List.drop_of_length_le (by omega)
    have hn : opsN ([] : List (S24)) = 0 := rfl
    rw [hdr, hn]
    refine ev_step (fun k => hallmarkref05_Small.l4.eq_2 ..) ?_
    refine Ev.congr (fun k => by rw [if_neg (by omega)]) ?_
    have := cont x h0 h1
    rw [Nat.zero_add]
    exact this
  | succ d ih =>
    intro j hd x h0 h1
    have hlt : j < ops.length := by omega
    have hrd : rd_T24 ops (j : Int) = ops[j] := by
      unfold rd_T24
      rw [Int.toNat_natCast, List.getD_eq_getElem?_getD, List.getElem?_eq_getElem hlt, Option.getD_some]
    have hdr : ops.drop j = ops[j] :: ops.drop (j + 1) := List.drop_eq_getElem_cons hlt
    have ho := hv _ (List.getElem_mem hlt)
    obtain ⟨o, hoe⟩ : ∃ o, ops[j] = o := ⟨_, rfl⟩
    rw [hoe] at hrd hdr ho
    have hn : opsN (o :: ops.drop (j + 1)) = opN o + opsN (ops.drop (j + 1)) := by unfold opsN; rw [List.map_cons, List.sum_cons]
    obtain ⟨N, hN⟩ : ∃ N, opsN (ops.drop (j + 1)) = N := ⟨_, rfl⟩
    have hoN : opN o = o.f6.length + o.f5.size / 8 := rfl
    obtain ⟨ho1, ho2⟩ := ho
    rw [hdr, hn, hN, hoN]
    refine ev_step (fun k => hallmarkref05_Small.l4.eq_2 ..) ?_
    by_cases hx : x ≤ m
    · have q1 : wrap64 (x + (o.f6.length : Int)) = x + o.f6.length := sm_wrap (by omega) (by omega)
      have q2a : -9223372036854775808 ≤ (o.f5.size : Int) / 8 ∧ (o.f5.size : Int) / 8 ≤ 9223372036854775807 := by omega
      have q2b : (o.f5.size : Int) / 8 = ((o.f5.size / 8 : Nat) : Int) := by omega
      have q3a : -9223372036854775808 ≤ x + (o.f6.length : Int) + ((o.f5.size / 8 : Nat) : Int) ∧ x + (o.f6.length : Int) + ((o.f5.size / 8 : Nat) : Int) ≤ 9223372036854775807 := by omega
      have q3b : x + (o.f6.length : Int) + ((o.f5.size / 8 : Nat) : Int) = x + ((o.f6.length + o.f5.size / 8 : Nat) : Int) := by omega
      have q4a : j ≤ 140737488355328 := by omega
      have c1 : (j : Int) < (ops.length : Int) := by omega
      have c2 : 0 ≤ (j : Int) := by omega
      have b1 : 0 ≤ x + ((o.f6.length + o.f5.size / 8 : Nat) : Int) := by omega
      have b2 : x + ((o.f6.length + o.f5.size / 8 : Nat) : Int) ≤ m + 1125899906842624 := by omega
      have hd' : d + (j + 1) = ops.length := by omega
      have q2 : wrap64 ((o.f5.size : Int) / 8) = ((o.f5.size / 8 : Nat) : Int) := (sm_wrap q2a.1 q2a.2).trans q2b
      have q3 : wrap64 (x + (o.f6.length : Int) + ((o.f5.size / 8 : Nat) : Int)) = x + ((o.f6.length + o.f5.size / 8 : Nat) : Int) := (sm_wrap q3a.1 q3a.2).trans q3b
      have q4 := sm_next j q4a
      refine Ev.congr (fun k => by rw [if_pos c1, if_pos hx, if_pos c2, hrd, q1, q2, q3, q4]) ?_
      clear q1 q2 q3 q4
      have := ih (j + 1) hd' _ b1 b2
      rw [hN] at this
      refine ev_eq this (sm_dec ?_)
      omega
    · have c1 : (j : Int) < (ops.length : Int) := by omega
      refine Ev.congr (fun k => by rw [if_pos c1, if_neg hx]) (ev_eq (cont x h0 h1) (sm_dec ?_))
      omega
theorem small_l3 (m : Int) (i : Nat) (hm0 : 0 ≤ m) (hm : m ≤ 1099511627776) (ss : List (S52)) (cs : List (S54)) (fs : List (S44)) (f : S44) (hi : i < fs.length) (hf : fs[i] = f) (hfv : funV f) (R : Nat)
    (cont : ∀ y : Int, 0 ≤ y → y ≤ m + 1125899906842624 → Ev (fun k => hallmarkref05_Small.l2 k m y (wrap64 ((i : Int) + 1)) ss cs fs) (decide (y + R ≤ m))) :
    ∀ (d q : Nat), d + q = f.f1.length → ∀ x : Int, 0 ≤ x → x ≤ m + 1125899906842624 → Ev (fun k => hallmarkref05_Small.l3 k m x (i : Int) (q : Int) ss cs fs) (decide (x + ((blocksN (f.f1.drop q) + R : Nat) : Int) ≤ m)) := by
  have hrf : rd_T44 fs (i : Int) = f := by
    unfold rd_T44
    rw [Int.toNat_natCast, List.getD_eq_getElem?_getD, List.getElem?_eq_getElem hi, Option.getD_some, hf]
  have a1 : 0 ≤ (i : Int) := by omega
  have a2 : (i : Int) < (fs.length : Int) := by omega
  obtain ⟨hfl, hfb⟩ := hfv
  intro d
  induction d with
  | zero =>
    intro q hd x h0 h1
    have hdr : f.f1.drop q = [] := List.drop_of_length_le (by omega)
    have hn : blocksN ([] : List (S59)) = 0 := rfl
    have c1 : ¬ ((q : Int) < (f.f1.length : Int)) := by omega
    rw [hdr, hn, Nat.zero_add]
    refine ev_step (fun k => hallmarkref05_Small.l3.eq_2 ..) ?_
    refine Ev.congr (fun k => by rw [if_pos a1, if_pos a2, hrf, if_neg c1]) ?_
    refine ev_step (fun k => hallmarkref05_Small.j7.eq_2 ..) ?_
    exact Ev.congr (fun k => by rw [if_neg (by simp)]) (cont x h0 h1)
  | succ d ih =>
    intro q hd x h0 h1
    have hlt : q < f.f1.length := by omega
    have c1 : (q : Int) < (f.f1.length : Int) := by omega
    have c2 : 0 ≤ (q : Int) := by omega
    have hrd : rd_T59 f.f1 (q : Int) = f.f1[q] := by
      unfold rd_T59
      rw [Int.toNat_natCast, List.getD_eq_getElem?_getD, List.getElem?_eq_getElem hlt, Option.getD_some]
    have hdr : f.f1.drop q = f.f1[q] :: f.f1.drop (q + 1) := List.drop_eq_getElem_cons hlt
    have ho := hfb _ (List.getElem_mem hlt)
    obtain ⟨b, hbe⟩ : ∃ b, f.f1[q] = b := ⟨_, rfl⟩
    rw [hbe] at hrd hdr ho
    have hn : blocksN (b :: f.f1.drop (q + 1)) = blockN b + blocksN (f.f1.drop (q + 1)) := by unfold blocksN; rw [List.map_cons, List.sum_cons]
    obtain ⟨N, hN⟩ : ∃ N, blocksN (f.f1.drop (q + 1)) = N := ⟨_, rfl⟩
    have hbN : blockN b = b.f0.length + b.f1.length + b.f2.f4.length + b.f2.f5.length + opsN b.f1 := rfl
    obtain ⟨v0, v1, v2, v3, v4⟩ := ho
    rw [hdr, hn, hN, hbN]
    refine ev_step (fun k => hallmarkref05_Small.l3.eq_2 ..) ?_
    refine Ev.congr (fun k => by rw [if_pos a1, if_pos a2, hrf, if_pos c1]) ?_
    refine ev_step (fun k => hallmarkref05_Small.j7.eq_2 ..) ?_
    by_cases hx : x ≤ m
    · have q1 : wrap64 (x + (b.f0.length : Int)) = x + b.f0.length := sm_wrap (by omega) (by omega)
      have q2a : -9223372036854775808 ≤ x + (b.f0.length : Int) + (b.f1.length : Int) ∧ x + (b.f0.length : Int) + (b.f1.length : Int) ≤ 9223372036854775807 := by omega
      have q3a : -9223372036854775808 ≤ x + (b.f0.length : Int) + (b.f1.length : Int) + (b.f2.f4.length : Int) ∧ x + (b.f0.length : Int) + (b.f1.length : Int) + (b.f2.f4.length : Int) ≤ 9223372036854775807 := by omega
      have q4a : -9223372036854775808 ≤ x + (b.f0.length : Int) + (b.f1.length : Int) + (b.f2.f4.length : Int) + (b.f2.f5.length : Int) ∧ x + (b.f0.length : Int) + (b.f1.length : Int) + (b.f2.f4.length : Int) + (b.f2.f5.length : Int) ≤ 9223372036854775807 := by omega
      have q4b : x + (b.f0.length : Int) + (b.f1.length : Int) + (b.f2.f4.length : Int) + (b.f2.f5.length : Int) = x + ((b.f0.length + b.f1.length + b.f2.f4.length + b.f2.f5.length : Nat) : Int) := by omega
      have q5a : q ≤ 140737488355328 := by omega
      have b1 : 0 ≤ x + ((b.f0.length + b.f1.length + b.f2.f4.length + b.f2.f5.length : Nat) : Int) := by omega
      have b2 : x + ((b.f0.length + b.f1.length + b.f2.f4.length + b.f2.f5.length : Nat) : Int) ≤ m + 1125899906842624 := by omega
      have hd' : d + (q + 1) = f.f1.length := by omega
      have q2 : wrap64 (x + (b.f0.length : Int) + (b.f1.length : Int)) = x + b.f0.length + b.f1.length := sm_wrap q2a.1 q2a.2
      have q3 : wrap64 (x + (b.f0.length : Int) + (b.f1.length : Int) + (b.f2.f4.length : Int)) = x + b.f0.length + b.f1.length + b.f2.f4.length := sm_wrap q3a.1 q3a.2
      have q4 : wrap64 (x + (b.f0.length : Int) + (b.f1.length : Int) + (b.f2.f4.length : Int) + (b.f2.f5.length : Int)) = x + ((b.f0.length + b.f1.length + b.f2.f4.length + b.f2.f5.length : Nat) : Int) := (sm_wrap q4a.1 q4a.2).trans q4b
      have q5 := sm_next q q5a
      have key := small_l4 m (i : Int) (q : Int) hm0 hm ss cs fs b.f0 b.f1 b.f2.f0 b.f2.f1 b.f2.f2 b.f2.f3 b.f2.f4 b.f2.f5 v1 v4 (N + R) (fun y y0 y1 => by
        rw [q5]
        have := ih (q + 1) hd' y y0 y1
        rw [hN] at this
        exact this) b.f1.length 0 (by omega) _ b1 b2
      refine Ev.congr (fun k => by rw [if_pos (decide_eq_true hx), if_pos a1, if_pos a2, if_pos c2, hrf, if_pos c1, hrd, q1, q2, q3, q4]) ?_
      clear q1 q2 q3 q4 q5
      rw [List.drop_zero] at key
      refine ev_eq key (sm_dec ?_)
      omega
    · refine Ev.congr (fun k => by rw [if_neg (by rw [decide_eq_false hx]; simp)]) (ev_eq (cont x h0 h1) (sm_dec ?_))
      omega
theorem small_l2 (m : Int) (hm0 : 0 ≤ m) (hm : m ≤ 1099511627776) (ss : List (S52)) (cs : List (S54)) (fs : List (S44)) (hl : fs.length ≤ 140737488355328) (hv : ∀ f ∈ fs, funV f) :
    ∀ (d i : Nat), d + i = fs.length → ∀ x : Int, 0 ≤ x → x ≤ m + 1125899906842624 → Ev (fun k => hallmarkref05_Small.l2 k m x (i : Int) ss cs fs) (decide (x + ((funsN (fs.drop i) : Nat) : Int) ≤ m)) := by
  intro d
  induction d with
  | zero =>
    intro i hd x h0 h1
    have hdr : fs.drop i = [] := List.drop_of_length_le (by omega)
    have hn : funsN ([] : List (S44)) = 0 := rfl
    have c1 : ¬ ((i : Int) < (fs.length : Int)) := by omega
    rw [hdr, hn]
    refine ev_step (fun k => hallmarkref05_Small.l2.eq_2 ..) ?_
    refine Ev.congr (fun k => by rw [if_neg c1]) ?_
    refine ev_step (fun k => hallmarkref05_Small.j5.eq_2 ..) ?_
    refine Ev.congr (fun k => by rw [if_neg (by simp)]) (ev_eq (Ev.now _) (sm_dec ?_))
    omega
  | succ d ih =>
    intro i hd x h0 h1
    have hlt : i < fs.length := by omega
    have c1 : (i : Int) < (fs.length : Int) := by omega
    have c2 : 0 ≤ (i : Int) := by omega
    have hdr : fs.drop i = fs[i] :: fs.drop (i + 1) := List.drop_eq_getElem_cons hlt
    have hfv := hv _ (List.getElem_mem hlt)
    obtain ⟨f, hf⟩ : ∃ f, fs[i] = f := ⟨_, rfl⟩
    have hrf : rd_T44 fs (i : Int) = f := by
      unfold rd_T44
      rw [Int.toNat_natCast, List.getD_eq_getElem?_getD, List.getElem?_eq_getElem hlt, Option.getD_some, hf]
    rw [hf] at hdr hfv
    have hn : funsN (f :: fs.drop (i + 1)) = funN f + funsN (fs.drop (i + 1)) := by unfold funsN; rw [List.map_cons, List.sum_cons]
    obtain ⟨N, hN⟩ : ∃ N, funsN (fs.drop (i + 1)) = N := ⟨_, rfl⟩
    have hfN : funN f = f.f1.length + blocksN f.f1 := rfl
    have hfl := hfv.1
    rw [hdr, hn, hN, hfN]
    refine ev_step (fun k => hallmarkref05_Small.l2.eq_2 ..) ?_
    refine Ev.congr (fun k => by rw [if_pos c1]) ?_
    refine ev_step (fun k => hallmarkref05_Small.j5.eq_2 ..) ?_
    by_cases hx : x ≤ m
    · have q1 : wrap64 (x + (f.f1.length : Int)) = x + f.f1.length := sm_wrap (by omega) (by omega)
      have b1 : 0 ≤ x + (f.f1.length : Int) := by omega
      have b2 : x + (f.f1.length : Int) ≤ m + 1125899906842624 := by omega
      have hd' : d + (i + 1) = fs.length := by omega
      have q5a : i ≤ 140737488355328 := by omega
      have q5 := sm_next i q5a
      have key := small_l3 m i hm0 hm ss cs fs f hlt hf hfv N (fun y y0 y1 => by
        rw [q5]
        have := ih (i + 1) hd' y y0 y1
        rw [hN] at this
        exact this) f.f1.length 0 (by omega) _ b1 b2
      refine Ev.congr (fun k => by rw [if_pos (decide_eq_true hx), if_pos c2, if_pos c1, hrf, q1]) ?_
      clear q1 q5
      rw [List.drop_zero] at key
      refine ev_eq key (sm_dec ?_)
      omega
    · refine Ev.congr (fun k => by rw [if_neg (by rw [decide_eq_false hx]; simp)]) (ev_eq (Ev.now _) (sm_dec ?_))
      omega
theorem small_l1 (m : Int) (hm0 : 0 ≤ m) (hm : m ≤ 1099511627776) (ss : List (S52)) (cs : List (S54)) (fs : List (S44)) (hl : cs.length ≤ 140737488355328) (hv : ∀ c ∈ cs, c.f0.length ≤ 140737488355328 ∧ c.f1.length ≤ 140737488355328) (R : Nat)
    (cont : ∀ y : Int, 0 ≤ y → y ≤ m + 1125899906842624 → Ev (fun k => hallmarkref05_Small.l2 k m y 0 ss cs fs) (decide (y + R ≤ m))) :
    ∀ (d i : Nat), d + i = cs.length → ∀ x : Int, 0 ≤ x → x ≤ m + 1125899906842624 → Ev (fun k => hallmarkref05_Small.l1 k m x (i : Int) ss cs fs) (decide (x + ((clssN (cs.drop i) + R : Nat) : Int) ≤ m)) := by
  intro d
  induction d with
  | zero =>
    intro i hd x h0 h1
    have hdr : cs.drop i = [] := List.drop_of_length_le (by omega)
    have hn : clssN ([] : List (S54)) = 0 := rfl
    have c1 : ¬ ((i : Int) < (cs.length : Int)) := by omega
    rw [hdr, hn, Nat.zero_add]
    refine ev_step (fun k => hallmarkref05_Small.l1.eq_2 ..) ?_
    refine Ev.congr (fun k => by rw [if_neg c1]) ?_
    exact ev_step (fun k => hallmarkref05_Small.j3.eq_2 ..) (cont x h0 h1)
  | succ d ih =>
    intro i hd x h0 h1
    have hlt : i < cs.length := by omega
    have c1 : (i : Int) < (cs.length : Int) := by omega
    have c2 : 0 ≤ (i : Int) := by omega
    have hdr : cs.drop i = cs[i] :: cs.drop (i + 1) := List.drop_eq_getElem_cons hlt
    have hfv := hv _ (List.getElem_mem hlt)
    obtain ⟨f, hf⟩ : ∃ f, cs[i] = f := ⟨_, rfl⟩
    have hrf : rd_T54 cs (i : Int) = f := by
      unfold rd_T54
      rw [Int.toNat_natCast, List.getD_eq_getElem?_getD, List.getElem?_eq_getElem hlt, Option.getD_some, hf]
    rw [hf] at hdr hfv
    have hn : clssN (f :: cs.drop (i + 1)) = clsN f + clssN (cs.drop (i + 1)) := by unfold clssN; rw [List.map_cons, List.sum_cons]
    obtain ⟨N, hN⟩ : ∃ N, clssN (cs.drop (i + 1)) = N := ⟨_, rfl⟩
    have hfN : clsN f = f.f0.length + f.f1.length := rfl
    obtain ⟨v0, v1⟩ := hfv
    rw [hdr, hn, hN, hfN]
    refine ev_step (fun k => hallmarkref05_Small.l1.eq_2 ..) ?_
    by_cases hx : x ≤ m
    · have q1 : wrap64 (x + (f.f0.length : Int)) = x + f.f0.length := sm_wrap (by omega) (by omega)
      have q2a : -9223372036854775808 ≤ x + (f.f0.length : Int) + (f.f1.length : Int) ∧ x + (f.f0.length : Int) + (f.f1.length : Int) ≤ 9223372036854775807 := by omega
      have q2b : x + (f.f0.length : Int) + (f.f1.length : Int) = x + ((f.f0.length + f.f1.length : Nat) : Int) := by omega
      have q5a : i ≤ 140737488355328 := by omega
      have b1 : 0 ≤ x + ((f.f0.length + f.f1.length : Nat) : Int) := by omega
      have b2 : x + ((f.f0.length + f.f1.length : Nat) : Int) ≤ m + 1125899906842624 := by omega
      have hd' : d + (i + 1) = cs.length := by omega
      have q2 : wrap64 (x + (f.f0.length : Int) + (f.f1.length : Int)) = x + ((f.f0.length + f.f1.length : Nat) : Int) := (sm_wrap q2a.1 q2a.2).trans q2b
      have q5 := sm_next i q5a
      refine Ev.congr (fun k => by rw [if_pos c1, if_pos hx, if_pos c2, hrf, q1, q2, q5]) ?_
      clear q1 q2 q5
      have := ih (i + 1) hd' _ b1 b2
      rw [hN] at this
      refine ev_eq this (sm_dec ?_)
      omega
    · refine Ev.congr (fun k => by rw [if_pos c1, if_neg hx]) (ev_step (fun k => hallmarkref05_Small.j3.eq_2 ..) (ev_eq (cont x h0 h1) (sm_dec ?_)))
      omega
theorem small_l0 (m : Int) (hm0 : 0 ≤ m) (hm : m ≤ 1099511627776) (ss : List (S52)) (cs : List (S54)) (fs : List (S44)) (hl : ss.length ≤ 140737488355328) (hv : ∀ c ∈ ss, c.f0.length ≤ 140737488355328) (R : Nat)
    (cont : ∀ y : Int, 0 ≤ y → y ≤ m + 1125899906842624 → Ev (fun k => hallmarkref05_Small.l1 k m y 0 ss cs fs) (decide (y + R ≤ m))) :
    ∀ (d i : Nat), d + i = ss.length → ∀ x : Int, 0 ≤ x → x ≤ m + 1125899906842624 → Ev (fun k => hallmarkref05_Small.l0 k m x (i : Int) ss cs fs) (decide (x + ((sigsN (ss.drop i) + R : Nat) : Int) ≤ m)) := by
  intro d
  induction d with
  | zero =>
    intro i hd x h0 h1
    have hdr : ss.drop i = [] := List.drop_of_length_le (by omega)
    have hn : sigsN ([] : List (S52)) = 0 := rfl
    have c1 : ¬ ((i : Int) < (ss.length : Int)) := by omega
    rw [hdr, hn, Nat.zero_add]
    refine ev_step (fun k => hallmarkref05_Small.l0.eq_2 ..) ?_
    refine Ev.congr (fun k => by rw [if_neg c1]) ?_
    exact ev_step (fun k => hallmarkref05_Small.j1.eq_2 ..) (cont x h0 h1)
  | succ d ih =>
    intro i hd x h0 h1
    have hlt : i < ss.length := by omega
    have c1 : (i : Int) < (ss.length : Int) := by omega
    have c2 : 0 ≤ (i : Int) := by omega
    have hdr : ss.drop i = ss[i] :: ss.drop (i + 1) := List.drop_eq_getElem_cons hlt
    have hfv := hv _ (List.getElem_mem hlt)
    obtain ⟨f, hf⟩ : ∃ f, ss[i] = f := ⟨_, rfl⟩
    have hrf : rd_T52 ss (i : Int) = f := by
      unfold rd_T52
      rw [Int.toNat_natCast, List.getD_eq_getElem?_getD, List.getElem?_eq_getElem hlt, Option.getD_some, hf]
    rw [hf] at hdr hfv
    have hn : sigsN (f :: ss.drop (i + 1)) = f.f0.length + sigsN (ss.drop (i + 1)) := by unfold sigsN; rw [List.map_cons, List.sum_cons]
    obtain ⟨N, hN⟩ : ∃ N, sigsN (ss.drop (i + 1)) = N := ⟨_, rfl⟩
    rw [hdr, hn, hN]
    refine ev_step (fun k => hallmarkref05_Small.l0.eq_2 ..) ?_
    by_cases hx : x ≤ m
    · have q1 : wrap64 (x + (f.f0.length : Int)) = x + f.f0.length := sm_wrap (by omega) (by omega)
      have b1 : 0 ≤ x + (f.f0.length : Int) := by omega
      have b2 : x + (f.f0.length : Int) ≤ m + 1125899906842624 := by omega
      have hd' : d + (i + 1) = ss.length := by omega
      have q5a : i ≤ 140737488355328 := by omega
      have q5 := sm_next i q5a
      refine Ev.congr (fun k => by rw [if_pos c1, if_pos hx, if_pos c2, hrf, q1, q5]) ?_
      clear q1 q5
      have := ih (i + 1) hd' _ b1 b2
      rw [hN] at this
      refine ev_eq this (sm_dec ?_)
      omega
    · refine Ev.congr (fun k => by rw [if_pos c1, if_neg hx]) (ev_step (fun k => hallmarkref05_Small.j1.eq_2 ..) (ev_eq (cont x h0 h1) (sm_dec ?_)))
      omega
theorem Small_ev (m : Int) (hm0 : 0 ≤ m) (hm : m ≤ 1099511627776) (ss : List (S52)) (cs : List (S54)) (fs : List (S44)) (hs : ss.length ≤ 140737488355328) (hs' : ∀ c ∈ ss, c.f0.length ≤ 140737488355328)
    (hc : cs.length ≤ 140737488355328) (hc' : ∀ c ∈ cs, c.f0.length ≤ 140737488355328 ∧ c.f1.length ≤ 140737488355328) (hf : fs.length ≤ 140737488355328) (hf' : ∀ f ∈ fs, funV f) :
    Ev (fun k => hallmarkref05_Small.f k ss cs fs m) (decide (((partsN ss cs fs : Nat) : Int) ≤ m)) := by
  have q1a : -9223372036854775808 ≤ (ss.length : Int) + (cs.length : Int) ∧ (ss.length : Int) + (cs.length : Int) ≤ 9223372036854775807 := by omega
  have q2a : -9223372036854775808 ≤ (ss.length : Int) + (cs.length : Int) + (fs.length : Int) ∧ (ss.length : Int) + (cs.length : Int) + (fs.length : Int) ≤ 9223372036854775807 := by omega
  have q2b : (ss.length : Int) + (cs.length : Int) + (fs.length : Int) = ((ss.length + cs.length + fs.length : Nat) : Int) := by omega
  have b1 : (0 : Int) ≤ ((ss.length + cs.length + fs.length : Nat) : Int) := by omega
  have b2 : ((ss.length + cs.length + fs.length : Nat) : Int) ≤ m + 1125899906842624 := by omega
  have q1 : wrap64 ((ss.length : Int) + (cs.length : Int)) = (ss.length : Int) + cs.length := sm_wrap q1a.1 q1a.2
  have q2 : wrap64 ((ss.length : Int) + (cs.length : Int) + (fs.length : Int)) = ((ss.length + cs.length + fs.length : Nat) : Int) := (sm_wrap q2a.1 q2a.2).trans q2b
  have l2 := fun (y : Int) (y0 : 0 ≤ y) (y1 : y ≤ m + 1125899906842624) => small_l2 m hm0 hm ss cs fs hf hf' fs.length 0 (by omega) y y0 y1
  have l1 := fun (y : Int) (y0 : 0 ≤ y) (y1 : y ≤ m + 1125899906842624) => small_l1 m hm0 hm ss cs fs hc hc' _ l2 cs.length 0 (by omega) y y0 y1
  have l0 := small_l0 m hm0 hm ss cs fs hs hs' _ l1 ss.length 0 (by omega) _ b1 b2
  simp only [List.drop_zero] at l0
  unfold hallmarkref05_Small.f
  rw [q1, q2]
  clear q1 q2
  refine ev_eq l0 (sm_dec ?_)
  unfold partsN
  omega
end Go.Proofs.YtojmepkhbebllaaDoor.SmallShowProgs
