/- What a step's text comes to, in plain words: names, digits, quotes, lists. -/
import Derived.Test.YtojmepkhbebllaaDoorSizeShowProgs
import Derived.ShutString
set_option linter.unusedVariables false
set_option linter.unusedSimpArgs false
namespace Go.Proofs.YtojmepkhbebllaaDoor.ShowBShowProgs
open Go Go.RowKit Go.Proofs.YtojmepkhbebllaaDoorW.PrintWords Go.Proofs.YtojmepkhbebllaaDoorW.PrintLast Go.Proofs.YtojmepkhbebllaaDoorW.PrintMore Go.Proofs.YtojmepkhbebllaaDoor.PShowProgs Go.Proofs.YtojmepkhbebllaaDoor.BaseShowProgs Go.Proofs.YtojmepkhbebllaaDoor.SizeShowProgs
/-- a text of these bytes -/
def mk (l : List UInt8) : ByteArray := ⟨l.toArray⟩
def num (l : List UInt8) : List Int := l.map fun b => (b.toNat : Int)
theorem mk_eq (s : ByteArray) : s = mk s.data.toList := by simp [mk]
theorem size_mk (l : List UInt8) : (mk l).size = l.length := size_of_list l
theorem toList_mk (l : List UInt8) : (mk l).toList = l := by rw [ByteArray.toList_eq]; simp [mk]
theorem str_num (l : List UInt8) : strOfNums (num l) = mk l := by
  unfold strOfNums mk num
  congr 2
  rw [List.map_map]
  conv => rhs; rw [← List.map_id l]
  apply List.map_congr_left
  intro b _
  simp
theorem num_app (l m : List UInt8) : num (l ++ m) = num l ++ num m := by simp [num]
theorem num_len (l : List UInt8) : (num l).length = l.length := by simp [num]
theorem bt_mk (l : List UInt8) (i : Nat) (h : i < l.length) : bt (mk l) (i : Int) = (l[i].toNat : Int) := by
  have h' : i < (mk l).size := by rw [size_mk]; exact h
  unfold bt
  rw [dif_pos (by simpa using h')]
  rfl
theorem bt0 (a : UInt8) (l : List UInt8) : bt (mk (a :: l)) 0 = (a.toNat : Int) := bt_mk (a :: l) 0 (by simp)
theorem bt1 (a b : UInt8) (l : List UInt8) : bt (mk (a :: b :: l)) 1 = (b.toNat : Int) := bt_mk (a :: b :: l) 1 (by simp)
theorem bt2 (a b c : UInt8) (l : List UInt8) : bt (mk (a :: b :: c :: l)) 2 = (c.toNat : Int) := bt_mk (a :: b :: c :: l) 2 (by simp)
theorem extract_mk (l : List UInt8) (a b : Nat) : (mk l).extract a b = mk ((l.drop a).take (b - a)) := by
  unfold mk
  apply ByteArray.ext
  rw [ByteArray.data_extract]
  simp [List.extract_eq_take_drop]
theorem extract_to (l : List UInt8) (n : Nat) : (mk l).extract 0 n = mk (l.take n) := by rw [extract_mk]; simp
theorem extract_from (l : List UInt8) (n : Nat) : (mk l).extract n (mk l).size = mk (l.drop n) := by
  rw [extract_mk, size_mk, List.take_of_length_le (by simp)]

theorem mk_app (l m : List UInt8) : mk l ++ mk m = mk (l ++ m) := by
  apply ByteArray.ext
  simp [mk, ByteArray.data_append]
theorem tmod10 (u : Nat) : Int.tmod (u : Int) 10 = ((u % 10 : Nat) : Int) := (Int.ofNat_tmod u 10).symm
theorem str_one (n : Nat) : strOfNums [(n : Int)] = mk [UInt8.ofNat n] := by
  show (⟨([(n : Int)].map fun n => UInt8.ofNat n.toNat).toArray⟩ : ByteArray) = _
  rw [List.map_cons, List.map_nil, Int.toNat_natCast]
  rfl
theorem ref_digits : ∀ (f u k : Nat), u < 10 ^ (f + 1) → u < 18446744073709551616 → f < k → f < 20 → hallmarkref02_digits.f k (u : Int) = some (mk (Lib.decDigits u)) ∧ (Lib.decDigits u).length ≤ f + 1 := by
  intro f
  induction f with
  | zero =>
    intro u k hu _ hk _
    obtain ⟨k, rfl⟩ : ∃ m, k = m + 1 := ⟨k - 1, by omega⟩
    have e : Lib.decDigits u = [UInt8.ofNat (48 + u)] := by rw [Lib.decDigits, dif_pos (by omega)]
    rw [e]
    refine ⟨?_, by simp⟩
    simp only [hallmarkref02_digits.f, Option.bind_some]
    rw [if_neg (by omega)]
    have hd : (48 + Int.tmod (u : Int) 10 % 256) % 256 = ((48 + u : Nat) : Int) := by
      rw [tmod10]
      omega
    rw [hd, str_one]
  | succ f ih =>
    intro u k hu hu2 hk hf
    obtain ⟨k, rfl⟩ : ∃ m, k = m + 1 := ⟨k - 1, by omega⟩
    simp only [hallmarkref02_digits.f, Option.bind_some]
    have hd : (48 + Int.tmod (u : Int) 10 % 256) % 256 = ((48 + u % 10 : Nat) : Int) := by
      rw [tmod10]
      omega
    rw [hd]
    have hs : strOfNums [((48 + u % 10 : Nat) : Int)] = mk [UInt8.ofNat (48 + u % 10)] := str_one _
    rw [hs]
    by_cases hge : 10 ≤ u
    · have e : Lib.decDigits u = Lib.decDigits (u / 10) ++ [UInt8.ofNat (48 + u % 10)] := by rw [Lib.decDigits, dif_neg (by omega)]
      have ht : Int.tdiv (u : Int) 10 = ((u / 10 : Nat) : Int) := by exact (Int.ofNat_tdiv u 10).symm
      have hw : IntKind.u64.wrap ((u / 10 : Nat) : Int) = ((u / 10 : Nat) : Int) := u64_id (by omega) (by omega)
      have hp : u / 10 < 10 ^ (f + 1) := by rw [Nat.div_lt_iff_lt_mul (by decide)]; rw [← Nat.pow_succ]; exact hu
      obtain ⟨h1, h2⟩ := ih (u / 10) k hp (by omega) (by omega) (by omega)
      rw [if_pos (by omega), ht, hw, h1]
      simp only [Option.bind_some, size_mk, List.length_singleton]
      rw [if_pos (by omega), mk_app, e]
      exact ⟨rfl, by rw [List.length_append, List.length_singleton]; omega⟩
    · have e : Lib.decDigits u = [UInt8.ofNat (48 + u)] := by rw [Lib.decDigits, dif_pos (by omega)]
      rw [if_neg (by omega), e, Nat.mod_eq_of_lt (by omega)]
      exact ⟨rfl, by simp⟩
theorem qall_cons (c : UInt8) (t : List UInt8) : qall (c :: t) = qb c ++ qall t := by simp [qall]
def quote (t : List UInt8) : List UInt8 := 34 :: (qall t ++ [34])
theorem digit_fact : ∀ n : Fin 256, hallmarkref02_Digit.f ((Int.tdiv (n.val : Int) 16) % 256) = some ((hx (n.val / 16)).toNat : Int) ∧ hallmarkref02_Digit.f (Int.tmod (n.val : Int) 16) = some ((hx (n.val % 16)).toNat : Int) := by decide +kernel
theorem drop_at (l : List UInt8) (i : Nat) (h : i < l.length) : l.drop i = l[i] :: l.drop (i + 1) := List.drop_eq_getElem_cons h
theorem qb_len3 (c : UInt8) : (qb c).length ≤ 3 := qb_len c
theorem ref_quote_l (s : List UInt8) (hs : s.length ≤ 46912496117000) : ∀ (d i k : Nat) (p : List UInt8), d + i = s.length → 3 * d + 3 ≤ k → p.length ≤ 3 * i + 1 →
    hallmarkref02_Quote.l0 k (mk s) (num p) (i : Int) = some (mk (p ++ (qall (s.drop i) ++ [34])))
  | 0, i, k, p, hd, hk, hp => by
    obtain ⟨k, rfl⟩ : ∃ m, k = m + 1 := ⟨k - 1, by omega⟩
    simp only [hallmarkref02_Quote.l0, size_mk, num_len]
    rw [if_neg (by omega), if_pos (by omega), List.drop_of_length_le (by omega)]
    have : num p ++ [34] = num (p ++ [34]) := by rw [num_app]; rfl
    rw [this, str_num]; rfl
  | d + 1, i, k, p, hd, hk, hp => by
    obtain ⟨k, rfl⟩ : ∃ m, k = m + 1 := ⟨k - 1, by omega⟩
    have hi : i < s.length := by omega
    have ew : wrap64 ((i : Int) + 1) = ((i + 1 : Nat) : Int) := by unfold wrap64; omega
    have h3 := qb_len s[i]
    have ih := fun k hk => ref_quote_l s hs d (i + 1) k (p ++ qb s[i]) (by omega) hk (by rw [List.length_append]; omega)
    rw [drop_at s i hi, qall_cons]
    simp only [hallmarkref02_Quote.l0, size_mk, num_len]
    obtain ⟨k, rfl⟩ : ∃ m, k = m + 1 := ⟨k - 1, by omega⟩
    rw [if_pos (by omega), if_pos (by omega), bt_mk s i hi]
    generalize s[i] = c at *
    have hj1 : (if (c.toNat : Int) = 34 then hallmarkref02_Quote.j1 (k + 1) (mk s) (num p) i c.toNat true else hallmarkref02_Quote.j1 (k + 1) (mk s) (num p) i c.toNat ((c.toNat : Int) == 92)) = hallmarkref02_Quote.j1 (k + 1) (mk s) (num p) i c.toNat (decide (c = 34 ∨ c = 92)) := by
      by_cases h1 : c = 34
      · subst h1; rw [if_pos (by rfl)]; simp
      · rw [if_neg (fun h => h1 (UInt8.toNat_inj.1 (by simp; omega)))]
        by_cases h2 : c = 92
        · subst h2; simp
        · have : ((c.toNat : Int) == 92) = false := beq_eq_false_iff_ne.2 (fun h => h2 (UInt8.toNat_inj.1 (by simp; omega)))
          rw [this]; simp [h1, h2]
    rw [hj1]
    simp only [hallmarkref02_Quote.j1]
    obtain ⟨k, rfl⟩ : ∃ m, k = m + 1 := ⟨k - 1, by omega⟩
    by_cases h1 : c = 34 ∨ c = 92
    · have e : qb c = [92, c] := by unfold qb; rw [if_pos h1]
      rw [e] at ih h3 ⊢
      rw [if_pos (by simpa using h1)]
      simp only [Option.bind_some, List.length_cons, List.length_nil, num_len]
      rw [if_pos (by omega), ew]
      have : num p ++ [92, (c.toNat : Int)] = num (p ++ [92, c]) := by rw [num_app]; rfl
      rw [this, ih _ (by omega)]; simp
    · rw [if_neg (by simpa using h1)]
      have hj2 : (if (c.toNat : Int) < 32 then hallmarkref02_Quote.j2 (k + 1) (mk s) (num p) i c.toNat true else hallmarkref02_Quote.j2 (k + 1) (mk s) (num p) i c.toNat (decide ((c.toNat : Int) > 126))) = hallmarkref02_Quote.j2 (k + 1) (mk s) (num p) i c.toNat (decide (c < 32 ∨ 126 < c)) := by
        have a1 : c < 32 ↔ (c.toNat : Int) < 32 := by rw [UInt8.lt_iff_toNat_lt]; simp; omega
        have a2 : 126 < c ↔ (c.toNat : Int) > 126 := by rw [UInt8.lt_iff_toNat_lt]; simp; omega
        by_cases h2 : (c.toNat : Int) < 32
        · rw [if_pos h2]; simp [a1, h2]
        · rw [if_neg h2]; simp [a1, a2, h2]
      rw [hj2]
      simp only [hallmarkref02_Quote.j2]
      by_cases h2 : c < 32 ∨ 126 < c
      · have e : qb c = [92, hx (c.toNat / 16), hx (c.toNat % 16)] := by unfold qb; rw [if_neg h1, if_pos h2]
        have hdg := digit_fact ⟨c.toNat, c.toNat_lt⟩
        simp only at hdg
        rw [e] at ih h3 ⊢
        rw [if_pos (by simpa using h2), hdg.1]
        simp only [Option.bind_some]
        rw [hdg.2]
        simp only [Option.bind_some, List.length_cons, List.length_nil, num_len]
        rw [if_pos (by omega), ew]
        have : num p ++ [92, ((hx (c.toNat / 16)).toNat : Int), ((hx (c.toNat % 16)).toNat : Int)] = num (p ++ [92, hx (c.toNat / 16), hx (c.toNat % 16)]) := by rw [num_app]; rfl
        rw [this, ih _ (by omega)]; simp
      · have e : qb c = [c] := by unfold qb; rw [if_neg h1, if_neg h2]
        rw [e] at ih h3 ⊢
        rw [if_neg (by simpa using h2)]
        simp only [num_len]
        rw [if_pos (by omega), ew]
        have : num p ++ [(c.toNat : Int)] = num (p ++ [c]) := by rw [num_app]; rfl
        rw [this, ih _ (by omega)]; simp
theorem ref_quote (s : List UInt8) (hs : s.length ≤ 46912496117000) (k : Nat) (hk : 3 * s.length + 3 ≤ k) : hallmarkref02_Quote.f k (mk s) = some (mk (quote s)) := by
  unfold hallmarkref02_Quote.f
  have := ref_quote_l s hs s.length 0 k [34] (by omega) hk (by simp)
  simpa [quote, num] using this
theorem digits_is (n : Int) (hr : -9223372036854775808 ≤ n ∧ n < 9223372036854775808) (k : Nat) (hk : 70 ≤ k) : hallmarkref02_Digits.f k n = some (shD n) ∧ (shD n).size ≤ 30 := by
  have p20 : (10 : Nat) ^ (19 + 1) = 100000000000000000000 := by decide
  refine ⟨?_, shD_size n ⟨hr.1, by omega⟩⟩
  unfold hallmarkref02_Digits.f shD
  have e34 : (⟨#[45]⟩ : ByteArray) = mk [45] := rfl
  by_cases hn : n < 0
  · obtain ⟨h1, h2⟩ := ref_digits 19 n.natAbs k (by rw [p20]; omega) (by omega) (by omega) (by decide)
    rw [if_pos hn, size_is n hr k (by omega)]
    simp only [Option.bind_some]
    rw [h1]
    simp only [Option.bind_some, size_mk]
    rw [if_pos (by omega), e34, mk_app]
    have e : Lib.itoa n = [45] ++ Lib.decDigits n.natAbs := by rw [Lib.itoa, if_pos hn]; rfl
    rw [e]
    rfl
  · obtain ⟨m, rfl⟩ := Int.eq_ofNat_of_zero_le (show 0 ≤ n by omega)
    obtain ⟨h1, h2⟩ := ref_digits 19 m k (by rw [p20]; omega) (by omega) (by omega) (by decide)
    have hw : IntKind.u64.wrap (m : Int) = (m : Int) := u64_id (by omega) (by omega)
    rw [if_neg hn, hw, h1]
    simp only [Option.bind_some]
    have e : Lib.itoa (m : Int) = Lib.decDigits m := by rw [Lib.itoa, if_neg hn]; rfl
    rw [e]
    rfl
theorem one_digit (n : Nat) (h : n < 10) : shD (n : Int) = ⟨#[UInt8.ofNat (48 + n)]⟩ := by
  unfold shD
  rw [Lib.itoa, if_neg (by omega), Int.toNat_natCast, Lib.decDigits, dif_pos h]
def hasF (k : Int) (c : UInt8) : Bool := (fieldsL k).data.toList.contains c
set_option maxRecDepth 100000
theorem kinds (K : Int) (h : 0 ≤ K) (h' : K < 26) : K = 0 ∨ K = 1 ∨ K = 2 ∨ K = 3 ∨ K = 4 ∨ K = 5 ∨ K = 6 ∨ K = 7 ∨ K = 8 ∨ K = 9 ∨ K = 10 ∨ K = 11 ∨ K = 12 ∨ K = 13 ∨ K = 14 ∨ K = 15 ∨ K = 16 ∨ K = 17 ∨ K = 18 ∨ K = 19 ∨ K = 20 ∨ K = 21 ∨ K = 22 ∨ K = 23 ∨ K = 24 ∨ K = 25 := by omega
theorem not_kinds (K : Int) (h : ¬ (0 ≤ K ∧ K < 26)) : K ≠ 0 ∧ K ≠ 1 ∧ K ≠ 2 ∧ K ≠ 3 ∧ K ≠ 4 ∧ K ≠ 5 ∧ K ≠ 6 ∧ K ≠ 7 ∧ K ≠ 8 ∧ K ≠ 9 ∧ K ≠ 10 ∧ K ≠ 11 ∧ K ≠ 12 ∧ K ≠ 13 ∧ K ≠ 14 ∧ K ≠ 15 ∧ K ≠ 16 ∧ K ≠ 17 ∧ K ≠ 18 ∧ K ≠ 19 ∧ K ≠ 20 ∧ K ≠ 21 ∧ K ≠ 22 ∧ K ≠ 23 ∧ K ≠ 24 ∧ K ≠ 25 := by
  refine ⟨?_, ?_, ?_, ?_, ?_, ?_, ?_, ?_, ?_, ?_, ?_, ?_, ?_, ?_, ?_, ?_, ?_, ?_, ?_, ?_, ?_, ?_, ?_, ?_, ?_, ?_⟩ <;> omega
set_option maxHeartbeats 4000000 in
theorem fields_8 (K : Int) : hallmarkref04_Fields.f 8 K = some (fieldsL K) := by
  by_cases hK : 0 ≤ K ∧ K < 26
  · rcases kinds K hK.1 hK.2 with h | h | h | h | h | h | h | h | h | h | h | h | h | h | h | h | h | h | h | h | h | h | h | h | h | h <;> subst h <;>
      simp [hallmarkref04_Fields.f, hallmarkref04_Fields.j0, hallmarkref04_Fields.j1, hallmarkref04_Fields.j2, hallmarkref04_Fields.j3, hallmarkref04_Fields.j4, fieldsL, Door.kind_fields_tab]
  · have e : fieldsL K = ByteArray.empty := by unfold fieldsL; rw [if_neg hK]
    rw [e]
    obtain ⟨h0, h1, h2, h3, h4, h5, h6, h7, h8, h9, h10, h11, h12, h13, h14, h15, h16, h17, h18, h19, h20, h21, h22, h23, h24, h25⟩ := not_kinds K hK
    simp [hallmarkref04_Fields.f, hallmarkref04_Fields.j0, hallmarkref04_Fields.j1, hallmarkref04_Fields.j2, hallmarkref04_Fields.j3, hallmarkref04_Fields.j4, h0, h1, h2, h3, h4, h5, h6, h7, h8, h9, h10, h11, h12, h13, h14, h15, h16, h17, h18, h19, h20, h21, h22, h23, h24, h25]
    rfl
theorem fields_ev (K : Int) : Ev (fun k => hallmarkref04_Fields.f k K) (fieldsL K) := Ev.of (fun k => hallmarkref04_Fields.mono K k) (fields_8 K)
theorem has_in : ∀ n : Fin 26, ∀ c : Fin 7, hallmarkref04_Has.f 12 (n.val : Int) ([78, 83, 65, 66, 67, 76, 75].getD c.val 0) = some (hasF (n.val : Int) ([78, 83, 65, 66, 67, 76, 75].getD c.val 0)) := by decide +kernel
theorem has_ev (K : Int) (c : Fin 7) : Ev (fun k => hallmarkref04_Has.f k K ([78, 83, 65, 66, 67, 76, 75].getD c.val 0)) (hasF K ([78, 83, 65, 66, 67, 76, 75].getD c.val 0)) := by
  refine Ev.of (fun k => hallmarkref04_Has.mono K _ k) (k := 12) ?_
  by_cases hK : 0 ≤ K ∧ K < 26
  · have h := has_in ⟨K.toNat, by omega⟩ c
    rw [show ((K.toNat : Nat) : Int) = K by omega] at h
    exact h
  · have e : fieldsL K = ByteArray.empty := by unfold fieldsL; rw [if_neg hK]
    have hf : hallmarkref04_Fields.f 12 K = some ByteArray.empty := by
      obtain ⟨N, hN⟩ := fields_ev K
      have h8 := fields_8 K
      have m := hallmarkref04_Fields.mono K
      rw [← e]
      exact m 11 _ (m 10 _ (m 9 _ (m 8 _ h8)))
    unfold hallmarkref04_Has.f
    rw [hf]
    have h2 : hasF K ([78, 83, 65, 66, 67, 76, 75].getD c.val 0) = false := by unfold hasF; rw [e]; rfl
    rw [h2]
    rfl
theorem ev_step {α : Type} {g f : Nat → Option α} {r : α} (h : ∀ k, g (k + 1) = f k) (k : Ev f r) : Ev g r := Ev.step h k
theorem w_nat (i : Nat) (h : i < 9223372036854775807) : wrap64 ((i : Int) + 1) = ((i + 1 : Nat) : Int) := by unfold wrap64; omega
def cnt : List UInt8 → Nat
  | [] => 0
  | c :: l => (if c = 32 then 1 else 0) + cnt l
theorem word_out (l : List UInt8) (hl : l.length ≤ 1000) (n : Int) : ∀ (d i at_ : Nat) (from_ : Int) (k : Nat), d + i = l.length → at_ ≤ i → (n < at_ ∨ n > at_ + cnt (l.drop i)) → 2 * d + 3 ≤ k → hallmarkref06_word.l0 k (mk l) n (at_ : Int) from_ (i : Int) = some ⟨#[63]⟩ := by
  intro d
  induction d with
  | zero =>
    intro i at_ from_ k hd ha hn hk
    obtain ⟨k, rfl⟩ : ∃ m, k = m + 3 := ⟨k - 3, by omega⟩
    have hne : ¬ (at_ : Int) = n := by omega
    rw [hallmarkref06_word.l0, size_mk, if_pos (by omega), if_pos (by omega), hallmarkref06_word.j1, if_pos rfl, if_neg hne, hallmarkref06_word.l0, w_nat i (by omega), size_mk, if_neg (by omega)]
  | succ d ih =>
    intro i at_ from_ k hd ha hn hk
    obtain ⟨k, rfl⟩ : ∃ m, k = m + 2 := ⟨k - 2, by omega⟩
    have hi : i < l.length := by omega
    have hdr : l.drop i = l[i] :: l.drop (i + 1) := List.drop_eq_getElem_cons hi
    rw [hdr] at hn
    rw [hallmarkref06_word.l0, size_mk, if_pos (by omega), if_neg (by omega), if_pos (by omega), if_pos (by omega), bt_mk l i hi, hallmarkref06_word.j1]
    obtain ⟨c, hc⟩ : ∃ c, l[i] = c := ⟨_, rfl⟩
    rw [hc] at hn ⊢
    by_cases h32 : c = 32
    · subst h32
      have hne : ¬ (at_ : Int) = n := by simp only [cnt] at hn; omega
      rw [if_pos (by rfl), if_neg hne, w_nat at_ (by omega), w_nat i (by omega)]
      refine ih (i + 1) (at_ + 1) _ k (by omega) (by omega) ?_ (by omega)
      simp only [cnt, if_pos] at hn
      omega
    · have h0 : ((c.toNat : Int) == 32) = false := beq_eq_false_iff_ne.2 (fun h => h32 (UInt8.toNat_inj.1 (by show c.toNat = 32; omega)))
      rw [h0, if_neg (by decide), w_nat i (by omega)]
      refine ih (i + 1) at_ _ k (by omega) (by omega) ?_ (by omega)
      simp only [cnt, if_neg h32] at hn
      omega
def stepsL : List UInt8 := [105, 110, 116, 32, 98, 111, 111, 108, 32, 116, 101, 120, 116, 32, 97, 114, 105, 116, 104, 32, 110, 111, 116, 32, 99, 97, 116, 32, 108, 111, 110, 103, 32, 98, 121, 116, 101, 32, 97, 108, 105, 107, 101, 32, 110, 101, 119, 32, 103, 101, 116, 32, 115, 101, 116, 32, 109, 97, 107, 101, 32, 114, 111, 111, 109, 32, 115, 105, 122, 101, 32, 97, 116, 32, 112, 117, 116, 32, 116, 97, 98, 108, 101, 32, 101, 110, 116, 101, 114, 32, 108, 111, 111, 107, 32, 99, 111, 117, 110, 116, 32, 107, 101, 121, 32, 102, 97, 99, 101, 32, 99, 97, 108, 108, 32, 97, 115, 107, 32, 116, 101, 108, 108]
def signsL : List UInt8 := [97, 100, 100, 32, 115, 117, 98, 32, 109, 117, 108, 32, 100, 105, 118, 32, 114, 101, 109, 32, 97, 110, 100, 32, 111, 114, 32, 120, 111, 114, 32, 115, 104, 108, 32, 115, 104, 114, 32, 108, 101, 115, 115, 32, 109, 111, 115, 116, 32, 115, 97, 109, 101, 32, 101, 108, 115, 101]
theorem steps_in : ∀ i : Fin 26, hallmarkref06_word.f 400 (mk stepsL) (i.val : Int) = some (Door.show_steps_tab.getD i.val ByteArray.empty) := by decide +kernel
theorem signs_in : ∀ i : Fin 14, hallmarkref06_word.f 400 (mk signsL) (i.val : Int) = some (Door.show_signs_tab.getD i.val ByteArray.empty) := by decide +kernel
theorem name_at (tab : List ByteArray) (l : List UInt8) (N : Nat) (hl : l.length ≤ 150) (ht : tab.length = N) (hc : cnt l + 1 = N) (hin : ∀ i : Fin N, hallmarkref06_word.f 400 (mk l) (i.val : Int) = some (tab.getD i.val ByteArray.empty)) (n : Int) :
    Ev (fun k => hallmarkref06_word.f k (mk l) n) (nameS tab n) := by
  refine Ev.of (fun k => hallmarkref06_word.mono (mk l) n k) (k := 400) ?_
  unfold nameS
  by_cases h0 : n < 0
  · rw [if_pos h0]
    exact word_out l (by omega) n l.length 0 0 0 400 (by omega) (by omega) (.inl h0) (by omega)
  · rw [if_neg h0]
    by_cases h1 : n ≥ (tab.length : Int)
    · rw [if_pos h1]
      exact word_out l (by omega) n l.length 0 0 0 400 (by omega) (by omega) (.inr (by simp only [List.drop_zero]; omega)) (by omega)
    · rw [if_neg h1]
      obtain ⟨i, rfl⟩ := Int.eq_ofNat_of_zero_le (show 0 ≤ n by omega)
      exact hin ⟨i, by omega⟩
theorem steps_ev (n : Int) : Ev (fun k => hallmarkref06_word.f k (mk stepsL) n) (nameS Door.show_steps_tab n) := name_at _ stepsL 26 (by decide) (by kernel_rfl) (by decide +kernel) steps_in n
theorem signs_ev (n : Int) : Ev (fun k => hallmarkref06_word.f k (mk signsL) n) (nameS Door.show_signs_tab n) := name_at _ signsL 14 (by decide) (by kernel_rfl) (by decide +kernel) signs_in n
theorem digits_ev (n : Int) (h : inI64 n) : Ev (fun k => hallmarkref02_Digits.f k n) (shD n) := ⟨70, fun k hk => (digits_is n ⟨h.1, by have := h.2; omega⟩ k hk).1⟩
theorem num_ev (n : Int) (h : inI64 n) : Ev (fun k => hallmarkref06_num.f k n) (shD n) := by
  unfold hallmarkref06_num.f
  exact Ev.bind (digits_ev n h) (Ev.now _)
theorem shD_mk (n : Int) : shD n = mk (Lib.itoa n) := rfl
theorem vF_list (n : Int) : (vF n).data.toList = 118 :: Lib.itoa n := by
  have : vF n = mk (118 :: Lib.itoa n) := by
    unfold vF
    rw [shD_mk, show vS = mk [118] from rfl, mk_app]; rfl
  rw [this]; simp [mk]
theorem jn_snoc (sep : List UInt8) (xs : List ByteArray) (y : ByteArray) (h : xs ≠ []) : jn sep (xs ++ [y]) = jn sep xs ++ sep ++ y.data.toList := by
  cases xs with
  | nil => exact absurd rfl h
  | cons x r => simp [jn, jnT]
def preL (l : List Int) (i : Nat) : List UInt8 := jn [44] ((l.take i).map vF)
theorem preL_len (l : List Int) (hl : l.length ≤ 68719476736) (hi : ∀ x ∈ l, inI64 x) (i : Nat) : (preL l i).length ≤ 4260607557632 := by
  have h1 := jn_len ((l.take i).map vF)
  have h2 := lensB_map vF 60 vF_size (l.take i) (fun x hx => hi x (List.mem_of_mem_take hx))
  have h3 : (l.take i).length ≤ l.length := by rw [List.length_take]; omega
  rw [List.length_map] at h1
  unfold preL
  omega
theorem preL_succ (l : List Int) (i : Nat) (h : i < l.length) : preL l (i + 1) = (if 0 < i then preL l i ++ [44] else preL l i) ++ [118] ++ Lib.itoa l[i] := by
  unfold preL
  rw [List.take_succ_eq_append_getElem h, List.map_append]
  by_cases h0 : 0 < i
  · rw [if_pos h0, List.map_cons, List.map_nil, jn_snoc _ _ _ (by
      intro e
      have := congrArg List.length e
      rw [List.length_map, List.length_take, List.length_nil] at this
      omega), vF_list]
    simp
  · have : i = 0 := by omega
    subst this
    rw [if_neg (by omega)]
    simp [jn, jnT, vF_list]
theorem list_l (l : List Int) (hl : l.length ≤ 68719476736) (hi : ∀ x ∈ l, inI64 x) : ∀ (d i : Nat), d + i = l.length → Ev (fun k => hallmarkref06_list.l0 k l 1 (mk (preL l i)) (i : Int)) (mk (preL l l.length)) := by
  intro d
  induction d with
  | zero =>
    intro i hd
    have e : i = l.length := by omega
    refine ev_step (f := fun _ => some (mk (preL l l.length))) (fun k => ?_) (Ev.now _)
    show hallmarkref06_list.l0 (k + 1) l 1 (mk (preL l i)) (i : Int) = some (mk (preL l l.length))
    rw [hallmarkref06_list.l0, if_neg (by omega), e]
  | succ d ih =>
    intro i hd
    have hlt : i < l.length := by omega
    have hb := preL_len l hl hi i
    have hb2 := preL_len l hl hi (i + 1)
    have hs := preL_succ l i hlt
    have hx := hi l[i] (List.getElem_mem hlt)
    have hrd : rd l (i : Int) = l[i] := by
      unfold rd
      rw [Int.toNat_natCast, List.getD_eq_getElem?_getD, List.getElem?_eq_getElem hlt, Option.getD_some]
    obtain ⟨Q, hQ⟩ : ∃ Q, (if 0 < i then preL l i ++ [44] else preL l i) = Q := ⟨_, rfl⟩
    rw [hQ] at hs
    have hQl : Q.length ≤ 4260607557633 := by
      rw [← hQ]; split
      · rw [List.length_append]; simp only [List.length_cons, List.length_nil]; omega
      · omega
    have key : Ev (fun k => hallmarkref06_list.j1 k l 1 (mk Q) (i : Int)) (mk (preL l l.length)) := by
      refine ev_step (f := fun k => (hallmarkref06_num.f k l[i]).bind fun t => hallmarkref06_list.l0 k l 1 (mk (Q ++ [118]) ++ t) ((i + 1 : Nat) : Int)) (fun k => ?_) ?_
      · show hallmarkref06_list.j1 (k + 1) l 1 (mk Q) (i : Int) = _
        rw [hallmarkref06_list.j1, if_neg (by decide), if_pos rfl, size_mk, if_pos (by omega), if_pos (by omega), if_pos (by omega), hrd, w_nat i (by omega), show (⟨#[118]⟩ : ByteArray) = mk [118] from rfl, mk_app]
        obtain h1 | ⟨t, h1⟩ : hallmarkref06_num.f k l[i] = none ∨ ∃ t, hallmarkref06_num.f k l[i] = some t := by cases hallmarkref06_num.f k l[i] <;> simp
        · rw [h1]; rfl
        · have : t = shD l[i] := by
            obtain ⟨K, hK⟩ := num_ev l[i] hx
            have h2 : hallmarkref06_num.f (k + K) l[i] = some (shD l[i]) := hK (k + K) (by omega)
            have h3 := at_rounds (fun k => hallmarkref06_num.mono l[i] k) (show k ≤ k + K by omega) h1
            rw [h3] at h2
            exact Option.some.inj h2
          subst this
          have hsz := shD_size l[i] hx
          rw [h1, Option.bind_some, Option.bind_some, size_mk, if_pos (by rw [List.length_append]; simp only [List.length_cons, List.length_nil]; omega)]
      · refine Ev.bind (num_ev _ hx) ?_
        have e : mk (Q ++ [118]) ++ shD l[i] = mk (preL l (i + 1)) := by rw [shD_mk, mk_app, hs]
        rw [e]
        exact ih (i + 1) (by omega)
    refine ev_step (f := fun k => hallmarkref06_list.j1 k l 1 (mk Q) (i : Int)) (fun k => ?_) key
    show hallmarkref06_list.l0 (k + 1) l 1 (mk (preL l i)) (i : Int) = _
    rw [hallmarkref06_list.l0, if_pos (by omega), ← hQ]
    by_cases h0 : 0 < i
    · rw [if_pos (by omega), size_mk, if_pos (by omega), if_pos h0, show (⟨#[44]⟩ : ByteArray) = mk [44] from rfl, mk_app]
    · rw [if_neg (by omega), if_neg h0]
theorem list_ev (l : List Int) (hl : l.length ≤ 68719476736) (hi : ∀ x ∈ l, inI64 x) : Ev (fun k => hallmarkref06_list.f k l 1) (mk (jn [44] (l.map vF))) := by
  have := list_l l hl hi l.length 0 (by omega)
  have e : preL l l.length = jn [44] (l.map vF) := by unfold preL; rw [List.take_of_length_le (Nat.le_refl _)]
  rw [e] at this
  exact this
/-! A step's text, as the document has it. -/
theorem step_gen {α : Type} {h : Nat → Option Bool} {b : Bool} {x C y : ByteArray} {m : Nat} {g : Nat → Option ByteArray} {F : Nat → ByteArray → Option α} {res : α} (has : Ev h b) (hm : C.size = m) (hy : Ev g y) (hb : x.size + m + y.size ≤ 9223372036854775807)
    (hF : Ev (fun k => F k (if b = true then (x ++ C) ++ y else x)) res) :
    Ev (fun k => (h k).bind fun t => if t = true then (if x.size + m ≤ 9223372036854775807 then ((g k).bind fun y => (if (x ++ C).size + y.size ≤ 9223372036854775807 then F k ((x ++ C) ++ y) else none)) else none) else F k x) res := by
  refine Ev.bind has ?_
  cases b with
  | false => exact Ev.congr (fun k => by rw [if_neg (by decide)]) (Ev.congr (f := fun k => F k x) (fun k => rfl) hF)
  | true =>
    refine Ev.congr (f := fun k => (g k).bind fun y => (if (x ++ C).size + y.size ≤ 9223372036854775807 then F k ((x ++ C) ++ y) else none)) (fun k => by rw [if_pos rfl, if_pos (by omega)]) ?_
    refine Ev.bind hy ?_
    exact Ev.congr (f := fun k => F k ((x ++ C) ++ y)) (fun k => by rw [if_pos (by rw [ByteArray.size_append]; omega)]) hF
def pN (K n : Int) (x : ByteArray) : ByteArray := if hasF K 78 = true then (if K = 3 then (x ++ sp) ++ nameS Door.show_signs_tab n else (x ++ sp) ++ shD n) else x
def pS (K : Int) (s x : ByteArray) : ByteArray := if hasF K 83 = true then (x ++ sp) ++ quoteS s else x
def pV (K : Int) (c : UInt8) (n : Int) (x : ByteArray) : ByteArray := if hasF K c = true then (x ++ (sp ++ vS)) ++ shD n else x
def pL (K : Int) (l : List Int) (x : ByteArray) : ByteArray := if hasF K 76 = true then (((x ++ (sp ++ ⟨#[40]⟩)) ++ mk (jn [44] (l.map vF))) ++ ⟨#[41]⟩) else x
def pK (K : Int) (st : Bool) (x : ByteArray) : ByteArray := if hasF K 75 = true then (if st = true then x ++ stackS else x) else x
def refOp (K a b c n : Int) (s : ByteArray) (l : List Int) (st : Bool) : ByteArray := pK K st (pL K l (pV K 67 c (pV K 66 b (pV K 65 a (pS K s (pN K n (nameS Door.show_steps_tab K)))))))
theorem pN_size (K n : Int) (hn : inI64 n) (x : ByteArray) : (pN K n x).size ≤ x.size + 31 := by
  have h1 := nameS_size Door.show_signs_tab n signs_size
  have h2 := shD_size n hn
  have h3 : sp.size = 1 := rfl
  unfold pN; repeat' split
  all_goals (try simp only [ByteArray.size_append]); omega
theorem pS_size (K : Int) (s x : ByteArray) (hs : s.size ≤ 1099511627776) : (pS K s x).size ≤ x.size + 3298534883331 := by
  have h1 := quoteS_size s
  have h3 : sp.size = 1 := rfl
  unfold pS; repeat' split
  all_goals (try simp only [ByteArray.size_append]); omega
theorem pV_size (K : Int) (c : UInt8) (n : Int) (hn : inI64 n) (x : ByteArray) : (pV K c n x).size ≤ x.size + 32 := by
  have h2 := shD_size n hn
  have h3 : sp.size = 1 := rfl
  have h4 : vS.size = 1 := rfl
  unfold pV; repeat' split
  all_goals (try simp only [ByteArray.size_append]); omega
theorem jn_all_len (l : List Int) (hl : l.length ≤ 68719476736) (hi : ∀ x ∈ l, inI64 x) : (jn [44] (l.map vF)).length ≤ 4260607557632 := by
  have h := preL_len l hl hi l.length
  unfold preL at h
  rwa [List.take_of_length_le (Nat.le_refl _)] at h
theorem quote_ev (s : ByteArray) (hs : s.size ≤ 1099511627776) : Ev (fun k => hallmarkref02_Quote.f k s) (quoteS s) := by
  have e : s.data.toList.length = s.size := by simp
  refine ⟨3 * s.data.toList.length + 3, fun k hk => ?_⟩
  have := ref_quote s.data.toList (by omega) k hk
  rw [← mk_eq] at this
  exact this
theorem has_c (K : Int) (i : Fin 7) (cI : Int) (cU : UInt8) (h1 : [78, 83, 65, 66, 67, 76, 75].getD i.val 0 = cI) (h2 : [78, 83, 65, 66, 67, 76, 75].getD i.val 0 = cU) : Ev (fun k => hallmarkref04_Has.f k K cI) (hasF K cU) := by
  have := has_ev K i
  rw [h1, h2] at this
  exact this
theorem j5_ev (K a b c n : Int) (s : ByteArray) (l : List Int) (st : Bool) (hl : l.length ≤ 68719476736) (hi : ∀ x ∈ l, inI64 x) (x : ByteArray) (hx : x.size ≤ 70368744177664) : Ev (fun k => hallmarkref06_Op.j5 k x K a b c n s l st) (pK K st (pL K l x)) := by
  have hj := jn_all_len l hl hi
  have tail : ∀ y : ByteArray, y.size ≤ 140737488355328 → Ev (fun k => (hallmarkref04_Has.f k K 75).bind fun t => (if t = true then (if st = true then (if y.size + 6 ≤ 9223372036854775807 then (some (y ++ (⟨#[32, 115, 116, 97, 99, 107]⟩ : ByteArray))) else (none)) else (some y)) else (some y))) (pK K st y) := by
    intro y hy
    refine Ev.bind (has_c K 6 75 75 rfl rfl) ?_
    unfold pK
    cases hasF K 75 with
    | false => exact Ev.congr (fun k => by rw [if_neg (by decide)]; rfl) (Ev.now _)
    | true =>
      cases st with
      | false => exact Ev.congr (fun k => by rw [if_pos rfl, if_neg (by decide)]; rfl) (Ev.now _)
      | true => exact Ev.congr (fun k => by rw [if_pos rfl, if_pos rfl, if_pos (by omega)]; rfl) (Ev.now _)
  refine ev_step (fun k => hallmarkref06_Op.j5.eq_2 _ _ _ _ _ _ _ _ _ _) ?_
  refine Ev.bind (has_c K 5 76 76 rfl rfl) ?_
  · unfold pL
    cases hasF K 76 with
    | false => exact Ev.congr (fun k => by rw [if_neg (by decide)]) (tail x (by omega))
    | true =>
      rw [if_pos rfl]
      refine Ev.congr (f := fun k => (hallmarkref06_list.f k l 1).bind fun t => (if (x ++ (⟨#[32, 40]⟩ : ByteArray)).size + t.size ≤ 9223372036854775807 then (if ((x ++ (⟨#[32, 40]⟩ : ByteArray)) ++ t).size + 1 ≤ 9223372036854775807 then ((hallmarkref04_Has.f k K 75).bind fun t180 => (if t180 = true then (if st = true then (if (((x ++ (⟨#[32, 40]⟩ : ByteArray)) ++ t) ++ (⟨#[41]⟩ : ByteArray)).size + 6 ≤ 9223372036854775807 then (some ((((x ++ (⟨#[32, 40]⟩ : ByteArray)) ++ t) ++ (⟨#[41]⟩ : ByteArray)) ++ (⟨#[32, 115, 116, 97, 99, 107]⟩ : ByteArray))) else (none)) else (some (((x ++ (⟨#[32, 40]⟩ : ByteArray)) ++ t) ++ (⟨#[41]⟩ : ByteArray)))) else (some (((x ++ (⟨#[32, 40]⟩ : ByteArray)) ++ t) ++ (⟨#[41]⟩ : ByteArray))))) else (none)) else (none))) (fun k => by rw [if_pos rfl, if_pos (by omega)]) ?_
      refine Ev.bind (list_ev l hl hi) ?_
      have e2 : (⟨#[32, 40]⟩ : ByteArray).size = 2 := rfl
      have e1 : (⟨#[41]⟩ : ByteArray).size = 1 := rfl
      refine Ev.congr (fun k => by rw [if_pos (by rw [ByteArray.size_append, size_mk]; omega), if_pos (by rw [ByteArray.size_append, ByteArray.size_append, size_mk]; omega)]; rfl) (tail _ ?_)
      have e3 : (sp ++ (⟨#[40]⟩ : ByteArray)).size = 2 := rfl
      rw [ByteArray.size_append, ByteArray.size_append, ByteArray.size_append (a := x), size_mk]
      omega
theorem j1_ev (K a b c n : Int) (s : ByteArray) (l : List Int) (st : Bool) (res : ByteArray) (hs : s.size ≤ 1099511627776) (x : ByteArray) (hx : x.size ≤ 70368744177664) (h : Ev (fun k => hallmarkref06_Op.j2 k (pS K s x) K a b c n s l st) res) : Ev (fun k => hallmarkref06_Op.j1 k x K a b c n s l st) res := by
  have hb := quoteS_size s
  refine ev_step (fun k => hallmarkref06_Op.j1.eq_2 _ _ _ _ _ _ _ _ _ _) ?_
  exact step_gen (C := sp) (m := 1) (g := fun k => hallmarkref02_Quote.f k s) (F := fun k x => hallmarkref06_Op.j2 k x K a b c n s l st) (has_c K 1 83 83 rfl rfl) rfl (quote_ev s hs) (by omega) h
theorem j2_ev (K a b c n : Int) (s : ByteArray) (l : List Int) (st : Bool) (res : ByteArray) (hn : inI64 a) (x : ByteArray) (hx : x.size ≤ 70368744177664) (h : Ev (fun k => hallmarkref06_Op.j3 k (pV K 65 a x) K a b c n s l st) res) : Ev (fun k => hallmarkref06_Op.j2 k x K a b c n s l st) res := by
  have hb := shD_size a hn
  refine ev_step (fun k => hallmarkref06_Op.j2.eq_2 _ _ _ _ _ _ _ _ _ _) ?_
  exact step_gen (C := sp ++ vS) (m := 2) (g := fun k => hallmarkref06_num.f k a) (F := fun k x => hallmarkref06_Op.j3 k x K a b c n s l st) (has_c K 2 65 65 rfl rfl) rfl (num_ev a hn) (by omega) h
theorem j3_ev (K a b c n : Int) (s : ByteArray) (l : List Int) (st : Bool) (res : ByteArray) (hn : inI64 b) (x : ByteArray) (hx : x.size ≤ 70368744177664) (h : Ev (fun k => hallmarkref06_Op.j4 k (pV K 66 b x) K a b c n s l st) res) : Ev (fun k => hallmarkref06_Op.j3 k x K a b c n s l st) res := by
  have hb := shD_size b hn
  refine ev_step (fun k => hallmarkref06_Op.j3.eq_2 _ _ _ _ _ _ _ _ _ _) ?_
  exact step_gen (C := sp ++ vS) (m := 2) (g := fun k => hallmarkref06_num.f k b) (F := fun k x => hallmarkref06_Op.j4 k x K a b c n s l st) (has_c K 3 66 66 rfl rfl) rfl (num_ev b hn) (by omega) h
theorem j4_ev (K a b c n : Int) (s : ByteArray) (l : List Int) (st : Bool) (res : ByteArray) (hn : inI64 c) (x : ByteArray) (hx : x.size ≤ 70368744177664) (h : Ev (fun k => hallmarkref06_Op.j5 k (pV K 67 c x) K a b c n s l st) res) : Ev (fun k => hallmarkref06_Op.j4 k x K a b c n s l st) res := by
  have hb := shD_size c hn
  refine ev_step (fun k => hallmarkref06_Op.j4.eq_2 _ _ _ _ _ _ _ _ _ _) ?_
  exact step_gen (C := sp ++ vS) (m := 2) (g := fun k => hallmarkref06_num.f k c) (F := fun k x => hallmarkref06_Op.j5 k x K a b c n s l st) (has_c K 4 67 67 rfl rfl) rfl (num_ev c hn) (by omega) h
theorem j0_ev (K a b c n : Int) (s : ByteArray) (l : List Int) (st : Bool) (hn : inI64 n) (res : ByteArray) (x : ByteArray) (hx : x.size ≤ 70368744177664) (h : Ev (fun k => hallmarkref06_Op.j1 k (pN K n x) K a b c n s l st) res) :
    Ev (fun k => hallmarkref06_Op.j0 k x (hasF K 78 && (K == 3)) K a b c n s l st) res := by
  have h1 := nameS_size Door.show_signs_tab n signs_size
  have h2 := shD_size n hn
  have e1 : sp.size = 1 := rfl
  refine ev_step (fun k => hallmarkref06_Op.j0.eq_2 _ _ _ _ _ _ _ _ _ _ _) ?_
  by_cases h3 : hasF K 78 = true ∧ K = 3
  · obtain ⟨h4, h5⟩ := h3
    have e : (hasF K 78 && (K == 3)) = true := by rw [h4, h5]; rfl
    have ep : pN K n x = (x ++ sp) ++ nameS Door.show_signs_tab n := by unfold pN; rw [if_pos h4, if_pos h5]
    rw [ep] at h
    rw [e]
    refine Ev.congr (f := fun k => (hallmarkref06_word.f k (mk signsL) n).bind fun t => (if (x ++ sp).size + t.size ≤ 9223372036854775807 then (hallmarkref06_Op.j1 k ((x ++ sp) ++ t) K a b c n s l st) else (none))) (fun k => by rw [if_pos rfl, if_pos (by omega)]; rfl) ?_
    exact Ev.bind (signs_ev n) (Ev.congr (fun k => by rw [if_pos (by rw [ByteArray.size_append]; omega)]) h)
  · have e : (hasF K 78 && (K == 3)) = false := by
      rw [Bool.and_eq_false_iff]
      by_cases h4 : hasF K 78 = true
      · exact .inr (beq_eq_false_iff_ne.2 (fun h5 => h3 ⟨h4, h5⟩))
      · exact .inl (by simpa using h4)
    have ep : pN K n x = (if hasF K 78 = true then (x ++ sp) ++ shD n else x) := by
      unfold pN
      by_cases h4 : hasF K 78 = true
      · rw [if_pos h4, if_pos h4, if_neg (fun h5 => h3 ⟨h4, h5⟩)]
      · rw [if_neg h4, if_neg h4]
    rw [ep] at h
    rw [e]
    refine Ev.congr (fun k => by rw [if_neg (by decide)]; rfl) (step_gen (C := sp) (m := 1) (g := fun k => hallmarkref02_Digits.f k n) (F := fun k x => hallmarkref06_Op.j1 k x K a b c n s l st) (has_c K 0 78 78 rfl rfl) rfl (digits_ev n hn) (by omega) h)
theorem Op_ev (K a b c n : Int) (s : ByteArray) (l : List Int) (st : Bool) (hs : s.size ≤ 1099511627776) (hl : l.length ≤ 68719476736) (hi : ∀ x ∈ l, inI64 x) (ha : inI64 a) (hb : inI64 b) (hc : inI64 c) (hn : inI64 n) :
    Ev (fun k => hallmarkref06_Op.f k K a b c n s l st) (refOp K a b c n s l st) := by
  have z0 := nameS_size Door.show_steps_tab K steps_size
  obtain ⟨x0, h0⟩ : ∃ x, nameS Door.show_steps_tab K = x := ⟨_, rfl⟩
  rw [h0] at z0
  have z1 := pN_size K n hn x0
  have z2 := pS_size K s (pN K n x0) hs
  have z3 := pV_size K 65 a ha (pS K s (pN K n x0))
  have z4 := pV_size K 66 b hb (pV K 65 a (pS K s (pN K n x0)))
  have z5 := pV_size K 67 c hc (pV K 66 b (pV K 65 a (pS K s (pN K n x0))))
  unfold refOp
  rw [h0]
  have key := j0_ev K a b c n s l st hn _ x0 (by omega) (j1_ev K a b c n s l st _ hs _ (by omega) (j2_ev K a b c n s l st _ ha _ (by omega) (j3_ev K a b c n s l st _ hb _ (by omega) (j4_ev K a b c n s l st _ hc _ (by omega) (j5_ev K a b c n s l st hl hi _ (by omega))))))
  refine Ev.congr (f := fun k => (hallmarkref06_word.f k (mk stepsL) K).bind fun t => ((hallmarkref04_Has.f k K 78).bind fun u => (if u = true then (hallmarkref06_Op.j0 k t (K == 3) K a b c n s l st) else (hallmarkref06_Op.j0 k t false K a b c n s l st)))) (fun k => rfl) ?_
  have w := steps_ev K
  rw [h0] at w
  refine Ev.bind w (Ev.bind (has_c K 0 78 78 rfl rfl) ?_)
  cases hh : hasF K 78 with
  | true => rw [hh] at key; exact Ev.congr (fun k => by rw [if_pos rfl]; rfl) key
  | false => rw [hh] at key; exact Ev.congr (fun k => by rw [if_neg (by decide)]; rfl) key
/-! The program's text is the document's. -/
theorem ne_83_78 : ((83 : UInt8) = 78) = False := eq_false (by decide)
theorem ne_65_78 : ((65 : UInt8) = 78) = False := eq_false (by decide)
theorem ne_65_83 : ((65 : UInt8) = 83) = False := eq_false (by decide)
theorem ne_66_78 : ((66 : UInt8) = 78) = False := eq_false (by decide)
theorem ne_66_83 : ((66 : UInt8) = 83) = False := eq_false (by decide)
theorem ne_66_65 : ((66 : UInt8) = 65) = False := eq_false (by decide)
theorem ne_67_78 : ((67 : UInt8) = 78) = False := eq_false (by decide)
theorem ne_67_83 : ((67 : UInt8) = 83) = False := eq_false (by decide)
theorem ne_67_65 : ((67 : UInt8) = 65) = False := eq_false (by decide)
theorem ne_67_66 : ((67 : UInt8) = 66) = False := eq_false (by decide)
theorem ne_76_78 : ((76 : UInt8) = 78) = False := eq_false (by decide)
theorem ne_76_83 : ((76 : UInt8) = 83) = False := eq_false (by decide)
theorem ne_76_65 : ((76 : UInt8) = 65) = False := eq_false (by decide)
theorem ne_76_66 : ((76 : UInt8) = 66) = False := eq_false (by decide)
theorem ne_76_67 : ((76 : UInt8) = 67) = False := eq_false (by decide)
theorem ne_75_78 : ((75 : UInt8) = 78) = False := eq_false (by decide)
theorem ne_75_83 : ((75 : UInt8) = 83) = False := eq_false (by decide)
theorem ne_75_65 : ((75 : UInt8) = 65) = False := eq_false (by decide)
theorem ne_75_66 : ((75 : UInt8) = 66) = False := eq_false (by decide)
theorem ne_75_67 : ((75 : UInt8) = 67) = False := eq_false (by decide)
theorem ne_75_76 : ((75 : UInt8) = 76) = False := eq_false (by decide)
theorem same_0 (a b c n : Int) (s : ByteArray) (l : List Int) (st : Bool) : outS 0 a b c n s l st (fieldsL 0).data.toList = refOp 0 a b c n s l st := by
  have e : (fieldsL 0).data.toList = [78] := by decide +kernel
  have h78 : hasF 0 78 = true := by unfold hasF; rw [e]; decide
  have h83 : hasF 0 83 = false := by unfold hasF; rw [e]; decide
  have h65 : hasF 0 65 = false := by unfold hasF; rw [e]; decide
  have h66 : hasF 0 66 = false := by unfold hasF; rw [e]; decide
  have h67 : hasF 0 67 = false := by unfold hasF; rw [e]; decide
  have h76 : hasF 0 76 = false := by unfold hasF; rw [e]; decide
  have h75 : hasF 0 75 = false := by unfold hasF; rw [e]; decide
  unfold outS refOp
  rw [e]
  simp only [List.foldl_cons, List.foldl_nil, stepS, pN, pS, pV, pL, pK, h78, h83, h65, h66, h67, h76, h75, reduceIte, ne_83_78, ne_65_78, ne_65_83, ne_66_78, ne_66_83, ne_66_65, ne_67_78, ne_67_83, ne_67_65, ne_67_66, ne_76_78, ne_76_83, ne_76_65, ne_76_66, ne_76_67, ne_75_78, ne_75_83, ne_75_65, ne_75_66, ne_75_67, ne_75_76, if_false, Int.reduceEq, Bool.false_eq_true, brS, mk, ByteArray.append_assoc]
theorem same_1 (a b c n : Int) (s : ByteArray) (l : List Int) (st : Bool) : outS 1 a b c n s l st (fieldsL 1).data.toList = refOp 1 a b c n s l st := by
  have e : (fieldsL 1).data.toList = [78] := by decide +kernel
  have h78 : hasF 1 78 = true := by unfold hasF; rw [e]; decide
  have h83 : hasF 1 83 = false := by unfold hasF; rw [e]; decide
  have h65 : hasF 1 65 = false := by unfold hasF; rw [e]; decide
  have h66 : hasF 1 66 = false := by unfold hasF; rw [e]; decide
  have h67 : hasF 1 67 = false := by unfold hasF; rw [e]; decide
  have h76 : hasF 1 76 = false := by unfold hasF; rw [e]; decide
  have h75 : hasF 1 75 = false := by unfold hasF; rw [e]; decide
  unfold outS refOp
  rw [e]
  simp only [List.foldl_cons, List.foldl_nil, stepS, pN, pS, pV, pL, pK, h78, h83, h65, h66, h67, h76, h75, reduceIte, ne_83_78, ne_65_78, ne_65_83, ne_66_78, ne_66_83, ne_66_65, ne_67_78, ne_67_83, ne_67_65, ne_67_66, ne_76_78, ne_76_83, ne_76_65, ne_76_66, ne_76_67, ne_75_78, ne_75_83, ne_75_65, ne_75_66, ne_75_67, ne_75_76, if_false, Int.reduceEq, Bool.false_eq_true, brS, mk, ByteArray.append_assoc]
theorem same_2 (a b c n : Int) (s : ByteArray) (l : List Int) (st : Bool) : outS 2 a b c n s l st (fieldsL 2).data.toList = refOp 2 a b c n s l st := by
  have e : (fieldsL 2).data.toList = [83] := by decide +kernel
  have h78 : hasF 2 78 = false := by unfold hasF; rw [e]; decide
  have h83 : hasF 2 83 = true := by unfold hasF; rw [e]; decide
  have h65 : hasF 2 65 = false := by unfold hasF; rw [e]; decide
  have h66 : hasF 2 66 = false := by unfold hasF; rw [e]; decide
  have h67 : hasF 2 67 = false := by unfold hasF; rw [e]; decide
  have h76 : hasF 2 76 = false := by unfold hasF; rw [e]; decide
  have h75 : hasF 2 75 = false := by unfold hasF; rw [e]; decide
  unfold outS refOp
  rw [e]
  simp only [List.foldl_cons, List.foldl_nil, stepS, pN, pS, pV, pL, pK, h78, h83, h65, h66, h67, h76, h75, reduceIte, ne_83_78, ne_65_78, ne_65_83, ne_66_78, ne_66_83, ne_66_65, ne_67_78, ne_67_83, ne_67_65, ne_67_66, ne_76_78, ne_76_83, ne_76_65, ne_76_66, ne_76_67, ne_75_78, ne_75_83, ne_75_65, ne_75_66, ne_75_67, ne_75_76, if_false, Int.reduceEq, Bool.false_eq_true, brS, mk, ByteArray.append_assoc]
theorem same_3 (a b c n : Int) (s : ByteArray) (l : List Int) (st : Bool) : outS 3 a b c n s l st (fieldsL 3).data.toList = refOp 3 a b c n s l st := by
  have e : (fieldsL 3).data.toList = [78, 65, 66] := by decide +kernel
  have h78 : hasF 3 78 = true := by unfold hasF; rw [e]; decide
  have h83 : hasF 3 83 = false := by unfold hasF; rw [e]; decide
  have h65 : hasF 3 65 = true := by unfold hasF; rw [e]; decide
  have h66 : hasF 3 66 = true := by unfold hasF; rw [e]; decide
  have h67 : hasF 3 67 = false := by unfold hasF; rw [e]; decide
  have h76 : hasF 3 76 = false := by unfold hasF; rw [e]; decide
  have h75 : hasF 3 75 = false := by unfold hasF; rw [e]; decide
  unfold outS refOp
  rw [e]
  simp only [List.foldl_cons, List.foldl_nil, stepS, pN, pS, pV, pL, pK, h78, h83, h65, h66, h67, h76, h75, reduceIte, ne_83_78, ne_65_78, ne_65_83, ne_66_78, ne_66_83, ne_66_65, ne_67_78, ne_67_83, ne_67_65, ne_67_66, ne_76_78, ne_76_83, ne_76_65, ne_76_66, ne_76_67, ne_75_78, ne_75_83, ne_75_65, ne_75_66, ne_75_67, ne_75_76, if_false, Int.reduceEq, Bool.false_eq_true, brS, mk, ByteArray.append_assoc]
theorem same_4 (a b c n : Int) (s : ByteArray) (l : List Int) (st : Bool) : outS 4 a b c n s l st (fieldsL 4).data.toList = refOp 4 a b c n s l st := by
  have e : (fieldsL 4).data.toList = [65] := by decide +kernel
  have h78 : hasF 4 78 = false := by unfold hasF; rw [e]; decide
  have h83 : hasF 4 83 = false := by unfold hasF; rw [e]; decide
  have h65 : hasF 4 65 = true := by unfold hasF; rw [e]; decide
  have h66 : hasF 4 66 = false := by unfold hasF; rw [e]; decide
  have h67 : hasF 4 67 = false := by unfold hasF; rw [e]; decide
  have h76 : hasF 4 76 = false := by unfold hasF; rw [e]; decide
  have h75 : hasF 4 75 = false := by unfold hasF; rw [e]; decide
  unfold outS refOp
  rw [e]
  simp only [List.foldl_cons, List.foldl_nil, stepS, pN, pS, pV, pL, pK, h78, h83, h65, h66, h67, h76, h75, reduceIte, ne_83_78, ne_65_78, ne_65_83, ne_66_78, ne_66_83, ne_66_65, ne_67_78, ne_67_83, ne_67_65, ne_67_66, ne_76_78, ne_76_83, ne_76_65, ne_76_66, ne_76_67, ne_75_78, ne_75_83, ne_75_65, ne_75_66, ne_75_67, ne_75_76, if_false, Int.reduceEq, Bool.false_eq_true, brS, mk, ByteArray.append_assoc]
theorem same_5 (a b c n : Int) (s : ByteArray) (l : List Int) (st : Bool) : outS 5 a b c n s l st (fieldsL 5).data.toList = refOp 5 a b c n s l st := by
  have e : (fieldsL 5).data.toList = [65, 66] := by decide +kernel
  have h78 : hasF 5 78 = false := by unfold hasF; rw [e]; decide
  have h83 : hasF 5 83 = false := by unfold hasF; rw [e]; decide
  have h65 : hasF 5 65 = true := by unfold hasF; rw [e]; decide
  have h66 : hasF 5 66 = true := by unfold hasF; rw [e]; decide
  have h67 : hasF 5 67 = false := by unfold hasF; rw [e]; decide
  have h76 : hasF 5 76 = false := by unfold hasF; rw [e]; decide
  have h75 : hasF 5 75 = false := by unfold hasF; rw [e]; decide
  unfold outS refOp
  rw [e]
  simp only [List.foldl_cons, List.foldl_nil, stepS, pN, pS, pV, pL, pK, h78, h83, h65, h66, h67, h76, h75, reduceIte, ne_83_78, ne_65_78, ne_65_83, ne_66_78, ne_66_83, ne_66_65, ne_67_78, ne_67_83, ne_67_65, ne_67_66, ne_76_78, ne_76_83, ne_76_65, ne_76_66, ne_76_67, ne_75_78, ne_75_83, ne_75_65, ne_75_66, ne_75_67, ne_75_76, if_false, Int.reduceEq, Bool.false_eq_true, brS, mk, ByteArray.append_assoc]
theorem same_6 (a b c n : Int) (s : ByteArray) (l : List Int) (st : Bool) : outS 6 a b c n s l st (fieldsL 6).data.toList = refOp 6 a b c n s l st := by
  have e : (fieldsL 6).data.toList = [65] := by decide +kernel
  have h78 : hasF 6 78 = false := by unfold hasF; rw [e]; decide
  have h83 : hasF 6 83 = false := by unfold hasF; rw [e]; decide
  have h65 : hasF 6 65 = true := by unfold hasF; rw [e]; decide
  have h66 : hasF 6 66 = false := by unfold hasF; rw [e]; decide
  have h67 : hasF 6 67 = false := by unfold hasF; rw [e]; decide
  have h76 : hasF 6 76 = false := by unfold hasF; rw [e]; decide
  have h75 : hasF 6 75 = false := by unfold hasF; rw [e]; decide
  unfold outS refOp
  rw [e]
  simp only [List.foldl_cons, List.foldl_nil, stepS, pN, pS, pV, pL, pK, h78, h83, h65, h66, h67, h76, h75, reduceIte, ne_83_78, ne_65_78, ne_65_83, ne_66_78, ne_66_83, ne_66_65, ne_67_78, ne_67_83, ne_67_65, ne_67_66, ne_76_78, ne_76_83, ne_76_65, ne_76_66, ne_76_67, ne_75_78, ne_75_83, ne_75_65, ne_75_66, ne_75_67, ne_75_76, if_false, Int.reduceEq, Bool.false_eq_true, brS, mk, ByteArray.append_assoc]
theorem same_7 (a b c n : Int) (s : ByteArray) (l : List Int) (st : Bool) : outS 7 a b c n s l st (fieldsL 7).data.toList = refOp 7 a b c n s l st := by
  have e : (fieldsL 7).data.toList = [65, 66] := by decide +kernel
  have h78 : hasF 7 78 = false := by unfold hasF; rw [e]; decide
  have h83 : hasF 7 83 = false := by unfold hasF; rw [e]; decide
  have h65 : hasF 7 65 = true := by unfold hasF; rw [e]; decide
  have h66 : hasF 7 66 = true := by unfold hasF; rw [e]; decide
  have h67 : hasF 7 67 = false := by unfold hasF; rw [e]; decide
  have h76 : hasF 7 76 = false := by unfold hasF; rw [e]; decide
  have h75 : hasF 7 75 = false := by unfold hasF; rw [e]; decide
  unfold outS refOp
  rw [e]
  simp only [List.foldl_cons, List.foldl_nil, stepS, pN, pS, pV, pL, pK, h78, h83, h65, h66, h67, h76, h75, reduceIte, ne_83_78, ne_65_78, ne_65_83, ne_66_78, ne_66_83, ne_66_65, ne_67_78, ne_67_83, ne_67_65, ne_67_66, ne_76_78, ne_76_83, ne_76_65, ne_76_66, ne_76_67, ne_75_78, ne_75_83, ne_75_65, ne_75_66, ne_75_67, ne_75_76, if_false, Int.reduceEq, Bool.false_eq_true, brS, mk, ByteArray.append_assoc]
theorem same_8 (a b c n : Int) (s : ByteArray) (l : List Int) (st : Bool) : outS 8 a b c n s l st (fieldsL 8).data.toList = refOp 8 a b c n s l st := by
  have e : (fieldsL 8).data.toList = [65, 66] := by decide +kernel
  have h78 : hasF 8 78 = false := by unfold hasF; rw [e]; decide
  have h83 : hasF 8 83 = false := by unfold hasF; rw [e]; decide
  have h65 : hasF 8 65 = true := by unfold hasF; rw [e]; decide
  have h66 : hasF 8 66 = true := by unfold hasF; rw [e]; decide
  have h67 : hasF 8 67 = false := by unfold hasF; rw [e]; decide
  have h76 : hasF 8 76 = false := by unfold hasF; rw [e]; decide
  have h75 : hasF 8 75 = false := by unfold hasF; rw [e]; decide
  unfold outS refOp
  rw [e]
  simp only [List.foldl_cons, List.foldl_nil, stepS, pN, pS, pV, pL, pK, h78, h83, h65, h66, h67, h76, h75, reduceIte, ne_83_78, ne_65_78, ne_65_83, ne_66_78, ne_66_83, ne_66_65, ne_67_78, ne_67_83, ne_67_65, ne_67_66, ne_76_78, ne_76_83, ne_76_65, ne_76_66, ne_76_67, ne_75_78, ne_75_83, ne_75_65, ne_75_66, ne_75_67, ne_75_76, if_false, Int.reduceEq, Bool.false_eq_true, brS, mk, ByteArray.append_assoc]
theorem same_9 (a b c n : Int) (s : ByteArray) (l : List Int) (st : Bool) : outS 9 a b c n s l st (fieldsL 9).data.toList = refOp 9 a b c n s l st := by
  have e : (fieldsL 9).data.toList = [78, 76, 75] := by decide +kernel
  have h78 : hasF 9 78 = true := by unfold hasF; rw [e]; decide
  have h83 : hasF 9 83 = false := by unfold hasF; rw [e]; decide
  have h65 : hasF 9 65 = false := by unfold hasF; rw [e]; decide
  have h66 : hasF 9 66 = false := by unfold hasF; rw [e]; decide
  have h67 : hasF 9 67 = false := by unfold hasF; rw [e]; decide
  have h76 : hasF 9 76 = true := by unfold hasF; rw [e]; decide
  have h75 : hasF 9 75 = true := by unfold hasF; rw [e]; decide
  unfold outS refOp
  rw [e]
  simp only [List.foldl_cons, List.foldl_nil, stepS, pN, pS, pV, pL, pK, h78, h83, h65, h66, h67, h76, h75, reduceIte, ne_83_78, ne_65_78, ne_65_83, ne_66_78, ne_66_83, ne_66_65, ne_67_78, ne_67_83, ne_67_65, ne_67_66, ne_76_78, ne_76_83, ne_76_65, ne_76_66, ne_76_67, ne_75_78, ne_75_83, ne_75_65, ne_75_66, ne_75_67, ne_75_76, if_false, Int.reduceEq, Bool.false_eq_true, brS, mk, ByteArray.append_assoc]
theorem same_10 (a b c n : Int) (s : ByteArray) (l : List Int) (st : Bool) : outS 10 a b c n s l st (fieldsL 10).data.toList = refOp 10 a b c n s l st := by
  have e : (fieldsL 10).data.toList = [78, 65] := by decide +kernel
  have h78 : hasF 10 78 = true := by unfold hasF; rw [e]; decide
  have h83 : hasF 10 83 = false := by unfold hasF; rw [e]; decide
  have h65 : hasF 10 65 = true := by unfold hasF; rw [e]; decide
  have h66 : hasF 10 66 = false := by unfold hasF; rw [e]; decide
  have h67 : hasF 10 67 = false := by unfold hasF; rw [e]; decide
  have h76 : hasF 10 76 = false := by unfold hasF; rw [e]; decide
  have h75 : hasF 10 75 = false := by unfold hasF; rw [e]; decide
  unfold outS refOp
  rw [e]
  simp only [List.foldl_cons, List.foldl_nil, stepS, pN, pS, pV, pL, pK, h78, h83, h65, h66, h67, h76, h75, reduceIte, ne_83_78, ne_65_78, ne_65_83, ne_66_78, ne_66_83, ne_66_65, ne_67_78, ne_67_83, ne_67_65, ne_67_66, ne_76_78, ne_76_83, ne_76_65, ne_76_66, ne_76_67, ne_75_78, ne_75_83, ne_75_65, ne_75_66, ne_75_67, ne_75_76, if_false, Int.reduceEq, Bool.false_eq_true, brS, mk, ByteArray.append_assoc]
theorem same_11 (a b c n : Int) (s : ByteArray) (l : List Int) (st : Bool) : outS 11 a b c n s l st (fieldsL 11).data.toList = refOp 11 a b c n s l st := by
  have e : (fieldsL 11).data.toList = [78, 65, 66] := by decide +kernel
  have h78 : hasF 11 78 = true := by unfold hasF; rw [e]; decide
  have h83 : hasF 11 83 = false := by unfold hasF; rw [e]; decide
  have h65 : hasF 11 65 = true := by unfold hasF; rw [e]; decide
  have h66 : hasF 11 66 = true := by unfold hasF; rw [e]; decide
  have h67 : hasF 11 67 = false := by unfold hasF; rw [e]; decide
  have h76 : hasF 11 76 = false := by unfold hasF; rw [e]; decide
  have h75 : hasF 11 75 = false := by unfold hasF; rw [e]; decide
  unfold outS refOp
  rw [e]
  simp only [List.foldl_cons, List.foldl_nil, stepS, pN, pS, pV, pL, pK, h78, h83, h65, h66, h67, h76, h75, reduceIte, ne_83_78, ne_65_78, ne_65_83, ne_66_78, ne_66_83, ne_66_65, ne_67_78, ne_67_83, ne_67_65, ne_67_66, ne_76_78, ne_76_83, ne_76_65, ne_76_66, ne_76_67, ne_75_78, ne_75_83, ne_75_65, ne_75_66, ne_75_67, ne_75_76, if_false, Int.reduceEq, Bool.false_eq_true, brS, mk, ByteArray.append_assoc]
theorem same_12 (a b c n : Int) (s : ByteArray) (l : List Int) (st : Bool) : outS 12 a b c n s l st (fieldsL 12).data.toList = refOp 12 a b c n s l st := by
  have e : (fieldsL 12).data.toList = [78, 75] := by decide +kernel
  have h78 : hasF 12 78 = true := by unfold hasF; rw [e]; decide
  have h83 : hasF 12 83 = false := by unfold hasF; rw [e]; decide
  have h65 : hasF 12 65 = false := by unfold hasF; rw [e]; decide
  have h66 : hasF 12 66 = false := by unfold hasF; rw [e]; decide
  have h67 : hasF 12 67 = false := by unfold hasF; rw [e]; decide
  have h76 : hasF 12 76 = false := by unfold hasF; rw [e]; decide
  have h75 : hasF 12 75 = true := by unfold hasF; rw [e]; decide
  unfold outS refOp
  rw [e]
  simp only [List.foldl_cons, List.foldl_nil, stepS, pN, pS, pV, pL, pK, h78, h83, h65, h66, h67, h76, h75, reduceIte, ne_83_78, ne_65_78, ne_65_83, ne_66_78, ne_66_83, ne_66_65, ne_67_78, ne_67_83, ne_67_65, ne_67_66, ne_76_78, ne_76_83, ne_76_65, ne_76_66, ne_76_67, ne_75_78, ne_75_83, ne_75_65, ne_75_66, ne_75_67, ne_75_76, if_false, Int.reduceEq, Bool.false_eq_true, brS, mk, ByteArray.append_assoc]
theorem same_13 (a b c n : Int) (s : ByteArray) (l : List Int) (st : Bool) : outS 13 a b c n s l st (fieldsL 13).data.toList = refOp 13 a b c n s l st := by
  have e : (fieldsL 13).data.toList = [65] := by decide +kernel
  have h78 : hasF 13 78 = false := by unfold hasF; rw [e]; decide
  have h83 : hasF 13 83 = false := by unfold hasF; rw [e]; decide
  have h65 : hasF 13 65 = true := by unfold hasF; rw [e]; decide
  have h66 : hasF 13 66 = false := by unfold hasF; rw [e]; decide
  have h67 : hasF 13 67 = false := by unfold hasF; rw [e]; decide
  have h76 : hasF 13 76 = false := by unfold hasF; rw [e]; decide
  have h75 : hasF 13 75 = false := by unfold hasF; rw [e]; decide
  unfold outS refOp
  rw [e]
  simp only [List.foldl_cons, List.foldl_nil, stepS, pN, pS, pV, pL, pK, h78, h83, h65, h66, h67, h76, h75, reduceIte, ne_83_78, ne_65_78, ne_65_83, ne_66_78, ne_66_83, ne_66_65, ne_67_78, ne_67_83, ne_67_65, ne_67_66, ne_76_78, ne_76_83, ne_76_65, ne_76_66, ne_76_67, ne_75_78, ne_75_83, ne_75_65, ne_75_66, ne_75_67, ne_75_76, if_false, Int.reduceEq, Bool.false_eq_true, brS, mk, ByteArray.append_assoc]
theorem same_14 (a b c n : Int) (s : ByteArray) (l : List Int) (st : Bool) : outS 14 a b c n s l st (fieldsL 14).data.toList = refOp 14 a b c n s l st := by
  have e : (fieldsL 14).data.toList = [65] := by decide +kernel
  have h78 : hasF 14 78 = false := by unfold hasF; rw [e]; decide
  have h83 : hasF 14 83 = false := by unfold hasF; rw [e]; decide
  have h65 : hasF 14 65 = true := by unfold hasF; rw [e]; decide
  have h66 : hasF 14 66 = false := by unfold hasF; rw [e]; decide
  have h67 : hasF 14 67 = false := by unfold hasF; rw [e]; decide
  have h76 : hasF 14 76 = false := by unfold hasF; rw [e]; decide
  have h75 : hasF 14 75 = false := by unfold hasF; rw [e]; decide
  unfold outS refOp
  rw [e]
  simp only [List.foldl_cons, List.foldl_nil, stepS, pN, pS, pV, pL, pK, h78, h83, h65, h66, h67, h76, h75, reduceIte, ne_83_78, ne_65_78, ne_65_83, ne_66_78, ne_66_83, ne_66_65, ne_67_78, ne_67_83, ne_67_65, ne_67_66, ne_76_78, ne_76_83, ne_76_65, ne_76_66, ne_76_67, ne_75_78, ne_75_83, ne_75_65, ne_75_66, ne_75_67, ne_75_76, if_false, Int.reduceEq, Bool.false_eq_true, brS, mk, ByteArray.append_assoc]
theorem same_15 (a b c n : Int) (s : ByteArray) (l : List Int) (st : Bool) : outS 15 a b c n s l st (fieldsL 15).data.toList = refOp 15 a b c n s l st := by
  have e : (fieldsL 15).data.toList = [65, 66] := by decide +kernel
  have h78 : hasF 15 78 = false := by unfold hasF; rw [e]; decide
  have h83 : hasF 15 83 = false := by unfold hasF; rw [e]; decide
  have h65 : hasF 15 65 = true := by unfold hasF; rw [e]; decide
  have h66 : hasF 15 66 = true := by unfold hasF; rw [e]; decide
  have h67 : hasF 15 67 = false := by unfold hasF; rw [e]; decide
  have h76 : hasF 15 76 = false := by unfold hasF; rw [e]; decide
  have h75 : hasF 15 75 = false := by unfold hasF; rw [e]; decide
  unfold outS refOp
  rw [e]
  simp only [List.foldl_cons, List.foldl_nil, stepS, pN, pS, pV, pL, pK, h78, h83, h65, h66, h67, h76, h75, reduceIte, ne_83_78, ne_65_78, ne_65_83, ne_66_78, ne_66_83, ne_66_65, ne_67_78, ne_67_83, ne_67_65, ne_67_66, ne_76_78, ne_76_83, ne_76_65, ne_76_66, ne_76_67, ne_75_78, ne_75_83, ne_75_65, ne_75_66, ne_75_67, ne_75_76, if_false, Int.reduceEq, Bool.false_eq_true, brS, mk, ByteArray.append_assoc]
theorem same_16 (a b c n : Int) (s : ByteArray) (l : List Int) (st : Bool) : outS 16 a b c n s l st (fieldsL 16).data.toList = refOp 16 a b c n s l st := by
  have e : (fieldsL 16).data.toList = [65, 66, 67] := by decide +kernel
  have h78 : hasF 16 78 = false := by unfold hasF; rw [e]; decide
  have h83 : hasF 16 83 = false := by unfold hasF; rw [e]; decide
  have h65 : hasF 16 65 = true := by unfold hasF; rw [e]; decide
  have h66 : hasF 16 66 = true := by unfold hasF; rw [e]; decide
  have h67 : hasF 16 67 = true := by unfold hasF; rw [e]; decide
  have h76 : hasF 16 76 = false := by unfold hasF; rw [e]; decide
  have h75 : hasF 16 75 = false := by unfold hasF; rw [e]; decide
  unfold outS refOp
  rw [e]
  simp only [List.foldl_cons, List.foldl_nil, stepS, pN, pS, pV, pL, pK, h78, h83, h65, h66, h67, h76, h75, reduceIte, ne_83_78, ne_65_78, ne_65_83, ne_66_78, ne_66_83, ne_66_65, ne_67_78, ne_67_83, ne_67_65, ne_67_66, ne_76_78, ne_76_83, ne_76_65, ne_76_66, ne_76_67, ne_75_78, ne_75_83, ne_75_65, ne_75_66, ne_75_67, ne_75_76, if_false, Int.reduceEq, Bool.false_eq_true, brS, mk, ByteArray.append_assoc]
theorem same_17 (a b c n : Int) (s : ByteArray) (l : List Int) (st : Bool) : outS 17 a b c n s l st (fieldsL 17).data.toList = refOp 17 a b c n s l st := by
  have e : (fieldsL 17).data.toList = [75] := by decide +kernel
  have h78 : hasF 17 78 = false := by unfold hasF; rw [e]; decide
  have h83 : hasF 17 83 = false := by unfold hasF; rw [e]; decide
  have h65 : hasF 17 65 = false := by unfold hasF; rw [e]; decide
  have h66 : hasF 17 66 = false := by unfold hasF; rw [e]; decide
  have h67 : hasF 17 67 = false := by unfold hasF; rw [e]; decide
  have h76 : hasF 17 76 = false := by unfold hasF; rw [e]; decide
  have h75 : hasF 17 75 = true := by unfold hasF; rw [e]; decide
  unfold outS refOp
  rw [e]
  simp only [List.foldl_cons, List.foldl_nil, stepS, pN, pS, pV, pL, pK, h78, h83, h65, h66, h67, h76, h75, reduceIte, ne_83_78, ne_65_78, ne_65_83, ne_66_78, ne_66_83, ne_66_65, ne_67_78, ne_67_83, ne_67_65, ne_67_66, ne_76_78, ne_76_83, ne_76_65, ne_76_66, ne_76_67, ne_75_78, ne_75_83, ne_75_65, ne_75_66, ne_75_67, ne_75_76, if_false, Int.reduceEq, Bool.false_eq_true, brS, mk, ByteArray.append_assoc]
theorem same_18 (a b c n : Int) (s : ByteArray) (l : List Int) (st : Bool) : outS 18 a b c n s l st (fieldsL 18).data.toList = refOp 18 a b c n s l st := by
  have e : (fieldsL 18).data.toList = [65, 66, 67] := by decide +kernel
  have h78 : hasF 18 78 = false := by unfold hasF; rw [e]; decide
  have h83 : hasF 18 83 = false := by unfold hasF; rw [e]; decide
  have h65 : hasF 18 65 = true := by unfold hasF; rw [e]; decide
  have h66 : hasF 18 66 = true := by unfold hasF; rw [e]; decide
  have h67 : hasF 18 67 = true := by unfold hasF; rw [e]; decide
  have h76 : hasF 18 76 = false := by unfold hasF; rw [e]; decide
  have h75 : hasF 18 75 = false := by unfold hasF; rw [e]; decide
  unfold outS refOp
  rw [e]
  simp only [List.foldl_cons, List.foldl_nil, stepS, pN, pS, pV, pL, pK, h78, h83, h65, h66, h67, h76, h75, reduceIte, ne_83_78, ne_65_78, ne_65_83, ne_66_78, ne_66_83, ne_66_65, ne_67_78, ne_67_83, ne_67_65, ne_67_66, ne_76_78, ne_76_83, ne_76_65, ne_76_66, ne_76_67, ne_75_78, ne_75_83, ne_75_65, ne_75_66, ne_75_67, ne_75_76, if_false, Int.reduceEq, Bool.false_eq_true, brS, mk, ByteArray.append_assoc]
theorem same_19 (a b c n : Int) (s : ByteArray) (l : List Int) (st : Bool) : outS 19 a b c n s l st (fieldsL 19).data.toList = refOp 19 a b c n s l st := by
  have e : (fieldsL 19).data.toList = [65, 66] := by decide +kernel
  have h78 : hasF 19 78 = false := by unfold hasF; rw [e]; decide
  have h83 : hasF 19 83 = false := by unfold hasF; rw [e]; decide
  have h65 : hasF 19 65 = true := by unfold hasF; rw [e]; decide
  have h66 : hasF 19 66 = true := by unfold hasF; rw [e]; decide
  have h67 : hasF 19 67 = false := by unfold hasF; rw [e]; decide
  have h76 : hasF 19 76 = false := by unfold hasF; rw [e]; decide
  have h75 : hasF 19 75 = false := by unfold hasF; rw [e]; decide
  unfold outS refOp
  rw [e]
  simp only [List.foldl_cons, List.foldl_nil, stepS, pN, pS, pV, pL, pK, h78, h83, h65, h66, h67, h76, h75, reduceIte, ne_83_78, ne_65_78, ne_65_83, ne_66_78, ne_66_83, ne_66_65, ne_67_78, ne_67_83, ne_67_65, ne_67_66, ne_76_78, ne_76_83, ne_76_65, ne_76_66, ne_76_67, ne_75_78, ne_75_83, ne_75_65, ne_75_66, ne_75_67, ne_75_76, if_false, Int.reduceEq, Bool.false_eq_true, brS, mk, ByteArray.append_assoc]
theorem same_20 (a b c n : Int) (s : ByteArray) (l : List Int) (st : Bool) : outS 20 a b c n s l st (fieldsL 20).data.toList = refOp 20 a b c n s l st := by
  have e : (fieldsL 20).data.toList = [65] := by decide +kernel
  have h78 : hasF 20 78 = false := by unfold hasF; rw [e]; decide
  have h83 : hasF 20 83 = false := by unfold hasF; rw [e]; decide
  have h65 : hasF 20 65 = true := by unfold hasF; rw [e]; decide
  have h66 : hasF 20 66 = false := by unfold hasF; rw [e]; decide
  have h67 : hasF 20 67 = false := by unfold hasF; rw [e]; decide
  have h76 : hasF 20 76 = false := by unfold hasF; rw [e]; decide
  have h75 : hasF 20 75 = false := by unfold hasF; rw [e]; decide
  unfold outS refOp
  rw [e]
  simp only [List.foldl_cons, List.foldl_nil, stepS, pN, pS, pV, pL, pK, h78, h83, h65, h66, h67, h76, h75, reduceIte, ne_83_78, ne_65_78, ne_65_83, ne_66_78, ne_66_83, ne_66_65, ne_67_78, ne_67_83, ne_67_65, ne_67_66, ne_76_78, ne_76_83, ne_76_65, ne_76_66, ne_76_67, ne_75_78, ne_75_83, ne_75_65, ne_75_66, ne_75_67, ne_75_76, if_false, Int.reduceEq, Bool.false_eq_true, brS, mk, ByteArray.append_assoc]
theorem same_21 (a b c n : Int) (s : ByteArray) (l : List Int) (st : Bool) : outS 21 a b c n s l st (fieldsL 21).data.toList = refOp 21 a b c n s l st := by
  have e : (fieldsL 21).data.toList = [65, 66] := by decide +kernel
  have h78 : hasF 21 78 = false := by unfold hasF; rw [e]; decide
  have h83 : hasF 21 83 = false := by unfold hasF; rw [e]; decide
  have h65 : hasF 21 65 = true := by unfold hasF; rw [e]; decide
  have h66 : hasF 21 66 = true := by unfold hasF; rw [e]; decide
  have h67 : hasF 21 67 = false := by unfold hasF; rw [e]; decide
  have h76 : hasF 21 76 = false := by unfold hasF; rw [e]; decide
  have h75 : hasF 21 75 = false := by unfold hasF; rw [e]; decide
  unfold outS refOp
  rw [e]
  simp only [List.foldl_cons, List.foldl_nil, stepS, pN, pS, pV, pL, pK, h78, h83, h65, h66, h67, h76, h75, reduceIte, ne_83_78, ne_65_78, ne_65_83, ne_66_78, ne_66_83, ne_66_65, ne_67_78, ne_67_83, ne_67_65, ne_67_66, ne_76_78, ne_76_83, ne_76_65, ne_76_66, ne_76_67, ne_75_78, ne_75_83, ne_75_65, ne_75_66, ne_75_67, ne_75_76, if_false, Int.reduceEq, Bool.false_eq_true, brS, mk, ByteArray.append_assoc]
theorem same_22 (a b c n : Int) (s : ByteArray) (l : List Int) (st : Bool) : outS 22 a b c n s l st (fieldsL 22).data.toList = refOp 22 a b c n s l st := by
  have e : (fieldsL 22).data.toList = [65] := by decide +kernel
  have h78 : hasF 22 78 = false := by unfold hasF; rw [e]; decide
  have h83 : hasF 22 83 = false := by unfold hasF; rw [e]; decide
  have h65 : hasF 22 65 = true := by unfold hasF; rw [e]; decide
  have h66 : hasF 22 66 = false := by unfold hasF; rw [e]; decide
  have h67 : hasF 22 67 = false := by unfold hasF; rw [e]; decide
  have h76 : hasF 22 76 = false := by unfold hasF; rw [e]; decide
  have h75 : hasF 22 75 = false := by unfold hasF; rw [e]; decide
  unfold outS refOp
  rw [e]
  simp only [List.foldl_cons, List.foldl_nil, stepS, pN, pS, pV, pL, pK, h78, h83, h65, h66, h67, h76, h75, reduceIte, ne_83_78, ne_65_78, ne_65_83, ne_66_78, ne_66_83, ne_66_65, ne_67_78, ne_67_83, ne_67_65, ne_67_66, ne_76_78, ne_76_83, ne_76_65, ne_76_66, ne_76_67, ne_75_78, ne_75_83, ne_75_65, ne_75_66, ne_75_67, ne_75_76, if_false, Int.reduceEq, Bool.false_eq_true, brS, mk, ByteArray.append_assoc]
theorem same_23 (a b c n : Int) (s : ByteArray) (l : List Int) (st : Bool) : outS 23 a b c n s l st (fieldsL 23).data.toList = refOp 23 a b c n s l st := by
  have e : (fieldsL 23).data.toList = [78, 76] := by decide +kernel
  have h78 : hasF 23 78 = true := by unfold hasF; rw [e]; decide
  have h83 : hasF 23 83 = false := by unfold hasF; rw [e]; decide
  have h65 : hasF 23 65 = false := by unfold hasF; rw [e]; decide
  have h66 : hasF 23 66 = false := by unfold hasF; rw [e]; decide
  have h67 : hasF 23 67 = false := by unfold hasF; rw [e]; decide
  have h76 : hasF 23 76 = true := by unfold hasF; rw [e]; decide
  have h75 : hasF 23 75 = false := by unfold hasF; rw [e]; decide
  unfold outS refOp
  rw [e]
  simp only [List.foldl_cons, List.foldl_nil, stepS, pN, pS, pV, pL, pK, h78, h83, h65, h66, h67, h76, h75, reduceIte, ne_83_78, ne_65_78, ne_65_83, ne_66_78, ne_66_83, ne_66_65, ne_67_78, ne_67_83, ne_67_65, ne_67_66, ne_76_78, ne_76_83, ne_76_65, ne_76_66, ne_76_67, ne_75_78, ne_75_83, ne_75_65, ne_75_66, ne_75_67, ne_75_76, if_false, Int.reduceEq, Bool.false_eq_true, brS, mk, ByteArray.append_assoc]
theorem same_24 (a b c n : Int) (s : ByteArray) (l : List Int) (st : Bool) : outS 24 a b c n s l st (fieldsL 24).data.toList = refOp 24 a b c n s l st := by
  have e : (fieldsL 24).data.toList = [78, 65, 76] := by decide +kernel
  have h78 : hasF 24 78 = true := by unfold hasF; rw [e]; decide
  have h83 : hasF 24 83 = false := by unfold hasF; rw [e]; decide
  have h65 : hasF 24 65 = true := by unfold hasF; rw [e]; decide
  have h66 : hasF 24 66 = false := by unfold hasF; rw [e]; decide
  have h67 : hasF 24 67 = false := by unfold hasF; rw [e]; decide
  have h76 : hasF 24 76 = true := by unfold hasF; rw [e]; decide
  have h75 : hasF 24 75 = false := by unfold hasF; rw [e]; decide
  unfold outS refOp
  rw [e]
  simp only [List.foldl_cons, List.foldl_nil, stepS, pN, pS, pV, pL, pK, h78, h83, h65, h66, h67, h76, h75, reduceIte, ne_83_78, ne_65_78, ne_65_83, ne_66_78, ne_66_83, ne_66_65, ne_67_78, ne_67_83, ne_67_65, ne_67_66, ne_76_78, ne_76_83, ne_76_65, ne_76_66, ne_76_67, ne_75_78, ne_75_83, ne_75_65, ne_75_66, ne_75_67, ne_75_76, if_false, Int.reduceEq, Bool.false_eq_true, brS, mk, ByteArray.append_assoc]
theorem same_25 (a b c n : Int) (s : ByteArray) (l : List Int) (st : Bool) : outS 25 a b c n s l st (fieldsL 25).data.toList = refOp 25 a b c n s l st := by
  have e : (fieldsL 25).data.toList = [65] := by decide +kernel
  have h78 : hasF 25 78 = false := by unfold hasF; rw [e]; decide
  have h83 : hasF 25 83 = false := by unfold hasF; rw [e]; decide
  have h65 : hasF 25 65 = true := by unfold hasF; rw [e]; decide
  have h66 : hasF 25 66 = false := by unfold hasF; rw [e]; decide
  have h67 : hasF 25 67 = false := by unfold hasF; rw [e]; decide
  have h76 : hasF 25 76 = false := by unfold hasF; rw [e]; decide
  have h75 : hasF 25 75 = false := by unfold hasF; rw [e]; decide
  unfold outS refOp
  rw [e]
  simp only [List.foldl_cons, List.foldl_nil, stepS, pN, pS, pV, pL, pK, h78, h83, h65, h66, h67, h76, h75, reduceIte, ne_83_78, ne_65_78, ne_65_83, ne_66_78, ne_66_83, ne_66_65, ne_67_78, ne_67_83, ne_67_65, ne_67_66, ne_76_78, ne_76_83, ne_76_65, ne_76_66, ne_76_67, ne_75_78, ne_75_83, ne_75_65, ne_75_66, ne_75_67, ne_75_76, if_false, Int.reduceEq, Bool.false_eq_true, brS, mk, ByteArray.append_assoc]
theorem same_op (K a b c n : Int) (s : ByteArray) (l : List Int) (st : Bool) : outS K a b c n s l st (fieldsL K).data.toList = refOp K a b c n s l st := by
  by_cases hK : 0 ≤ K ∧ K < 26
  · rcases kinds K hK.1 hK.2 with h | h | h | h | h | h | h | h | h | h | h | h | h | h | h | h | h | h | h | h | h | h | h | h | h | h <;> subst h
    · exact same_0 a b c n s l st
    · exact same_1 a b c n s l st
    · exact same_2 a b c n s l st
    · exact same_3 a b c n s l st
    · exact same_4 a b c n s l st
    · exact same_5 a b c n s l st
    · exact same_6 a b c n s l st
    · exact same_7 a b c n s l st
    · exact same_8 a b c n s l st
    · exact same_9 a b c n s l st
    · exact same_10 a b c n s l st
    · exact same_11 a b c n s l st
    · exact same_12 a b c n s l st
    · exact same_13 a b c n s l st
    · exact same_14 a b c n s l st
    · exact same_15 a b c n s l st
    · exact same_16 a b c n s l st
    · exact same_17 a b c n s l st
    · exact same_18 a b c n s l st
    · exact same_19 a b c n s l st
    · exact same_20 a b c n s l st
    · exact same_21 a b c n s l st
    · exact same_22 a b c n s l st
    · exact same_23 a b c n s l st
    · exact same_24 a b c n s l st
    · exact same_25 a b c n s l st
  · have e : (fieldsL K).data.toList = [] := by unfold fieldsL; rw [if_neg hK]; rfl
    have hh : ∀ c, hasF K c = false := fun c => by unfold hasF; rw [e]; rfl
    unfold outS refOp
    rw [e]
    simp only [List.foldl_nil, pN, pS, pV, pL, pK, hh, Bool.false_eq_true, reduceIte]
def typesS : ByteArray := ⟨#[110, 111, 110, 101, 32, 105, 110, 116, 32, 98, 111, 111, 108, 32, 116, 101, 120, 116, 32, 115, 108, 105, 99, 101, 32, 116, 97, 98, 108, 101, 32, 102, 97, 99, 101]⟩
theorem words_are : ∀ i : Fin 7, hallmarkref06_word.f 100 typesS (i.val : Int) = some (Door.show_types_tab.getD i.val ByteArray.empty) := by decide +kernel
theorem Type_ev (t : Int) (h : inI64 t) : Ev (fun k => hallmarkref06_Type.f k t) (tF t) := by
  refine Ev.of (fun k => hallmarkref06_Type.mono t k) (k := 100) ?_
  unfold hallmarkref06_Type.f tF
  have hh := h.2
  by_cases h6 : t ≥ 6
  · rw [if_pos h6, if_pos h6]
    have hw : wrap64 (t - 6) = t - 6 := wrap_id (by omega) (by omega)
    obtain ⟨d1, d2⟩ := digits_is (t - 6) (by omega) 100 (by omega)
    have d4 : hallmarkref06_num.f 100 (t - 6) = some (shD (t - 6)) := by
      unfold hallmarkref06_num.f
      rw [d1]; rfl
    rw [hw, d4, Option.bind_some, if_pos (by omega)]
  · rw [if_neg h6, if_neg h6]
    by_cases h1 : t < -1
    · rw [if_pos h1, if_pos h1]
    · rw [if_neg h1, if_neg h1]
      obtain ⟨i, hi⟩ := Int.eq_ofNat_of_zero_le (show 0 ≤ t + 1 by omega)
      have hw : wrap64 (t + 1) = t + 1 := wrap_id (by omega) (by omega)
      have := words_are ⟨i, by omega⟩
      unfold typesS at this
      rw [hw, hi, this]
      rfl
def pre0 (l : List Int) (i : Nat) : List UInt8 := jn [44] ((l.take i).map tF)
theorem pre0_len (l : List Int) (hl : l.length ≤ 68719476736) (hi : ∀ x ∈ l, inI64 x) (i : Nat) : (pre0 l i).length ≤ 4260607557632 := by
  have h1 := jn_len ((l.take i).map tF)
  have h2 := lensB_map tF 60 tF_size (l.take i) (fun x hx => hi x (List.mem_of_mem_take hx))
  have h3 : (l.take i).length ≤ l.length := by rw [List.length_take]; omega
  rw [List.length_map] at h1
  unfold pre0
  omega
theorem pre0_succ (l : List Int) (i : Nat) (h : i < l.length) : pre0 l (i + 1) = (if 0 < i then pre0 l i ++ [44] else pre0 l i) ++ (tF l[i]).data.toList := by
  unfold pre0
  rw [List.take_succ_eq_append_getElem h, List.map_append]
  by_cases h0 : 0 < i
  · rw [if_pos h0, List.map_cons, List.map_nil, jn_snoc _ _ _ (by
      intro e
      have := congrArg List.length e
      rw [List.length_map, List.length_take, List.length_nil] at this
      omega)]
  · have : i = 0 := by omega
    subst this
    rw [if_neg (by omega)]
    simp [jn, jnT]
theorem list0_l (l : List Int) (hl : l.length ≤ 68719476736) (hi : ∀ x ∈ l, inI64 x) : ∀ (d i : Nat), d + i = l.length → Ev (fun k => hallmarkref06_list.l0 k l 0 (mk (pre0 l i)) (i : Int)) (mk (pre0 l l.length)) := by
  intro d
  induction d with
  | zero =>
    intro i hd
    have e : i = l.length := by omega
    refine ev_step (f := fun _ => some (mk (pre0 l l.length))) (fun k => ?_) (Ev.now _)
    show hallmarkref06_list.l0 (k + 1) l 0 (mk (pre0 l i)) (i : Int) = some (mk (pre0 l l.length))
    rw [hallmarkref06_list.l0, if_neg (by omega), e]
  | succ d ih =>
    intro i hd
    have hlt : i < l.length := by omega
    have hb := pre0_len l hl hi i
    have hs := pre0_succ l i hlt
    have hx := hi l[i] (List.getElem_mem hlt)
    have hsz := tF_size l[i] hx
    have hrd : rd l (i : Int) = l[i] := by
      unfold rd
      rw [Int.toNat_natCast, List.getD_eq_getElem?_getD, List.getElem?_eq_getElem hlt, Option.getD_some]
    obtain ⟨Q, hQ⟩ : ∃ Q, (if 0 < i then pre0 l i ++ [44] else pre0 l i) = Q := ⟨_, rfl⟩
    rw [hQ] at hs
    have hQl : Q.length ≤ 4260607557633 := by
      rw [← hQ]; split
      · rw [List.length_append]; simp only [List.length_cons, List.length_nil]; omega
      · omega
    have key : Ev (fun k => hallmarkref06_list.j1 k l 0 (mk Q) (i : Int)) (mk (pre0 l l.length)) := by
      refine ev_step (f := fun k => (hallmarkref06_Type.f k l[i]).bind fun t => if (mk Q).size + t.size ≤ 9223372036854775807 then hallmarkref06_list.l0 k l 0 (mk Q ++ t) ((i + 1 : Nat) : Int) else none) (fun k => ?_) ?_
      · show hallmarkref06_list.j1 (k + 1) l 0 (mk Q) (i : Int) = _
        rw [hallmarkref06_list.j1, if_pos rfl, if_pos (by omega), if_pos (by omega), hrd, w_nat i (by omega)]
      · refine Ev.bind (Type_ev _ hx) ?_
        have e : mk Q ++ tF l[i] = mk (pre0 l (i + 1)) := by
          rw [hs, ← mk_app, ← mk_eq]
        refine Ev.congr (fun k => by rw [if_pos (by rw [size_mk]; omega), e]) (ih (i + 1) (by omega))
    refine ev_step (f := fun k => hallmarkref06_list.j1 k l 0 (mk Q) (i : Int)) (fun k => ?_) key
    show hallmarkref06_list.l0 (k + 1) l 0 (mk (pre0 l i)) (i : Int) = _
    rw [hallmarkref06_list.l0, if_pos (by omega), ← hQ]
    by_cases h0 : 0 < i
    · rw [if_pos (by omega), size_mk, if_pos (by omega), if_pos h0, show (⟨#[44]⟩ : ByteArray) = mk [44] from rfl, mk_app]
    · rw [if_neg (by omega), if_neg h0]
theorem list0_ev (l : List Int) (hl : l.length ≤ 68719476736) (hi : ∀ x ∈ l, inI64 x) : Ev (fun k => hallmarkref06_list.f k l 0) (mk (jn [44] (l.map tF))) := by
  have := list0_l l hl hi l.length 0 (by omega)
  have e : pre0 l l.length = jn [44] (l.map tF) := by unfold pre0; rw [List.take_of_length_le (Nat.le_refl _)]
  rw [e] at this
  exact this
def pre2 (l : List Int) (i : Nat) : List UInt8 := jn [44] ((l.take i).map shD)
theorem pre2_len (l : List Int) (hl : l.length ≤ 68719476736) (hi : ∀ x ∈ l, inI64 x) (i : Nat) : (pre2 l i).length ≤ 4260607557632 := by
  have h1 := jn_len ((l.take i).map shD)
  have h2 := lensB_map shD 60 shD_size60 (l.take i) (fun x hx => hi x (List.mem_of_mem_take hx))
  have h3 : (l.take i).length ≤ l.length := by rw [List.length_take]; omega
  rw [List.length_map] at h1
  unfold pre2
  omega
theorem pre2_succ (l : List Int) (i : Nat) (h : i < l.length) : pre2 l (i + 1) = (if 0 < i then pre2 l i ++ [44] else pre2 l i) ++ (shD l[i]).data.toList := by
  unfold pre2
  rw [List.take_succ_eq_append_getElem h, List.map_append]
  by_cases h0 : 0 < i
  · rw [if_pos h0, List.map_cons, List.map_nil, jn_snoc _ _ _ (by
      intro e
      have := congrArg List.length e
      rw [List.length_map, List.length_take, List.length_nil] at this
      omega)]
  · have : i = 0 := by omega
    subst this
    rw [if_neg (by omega)]
    simp [jn, jnT]
theorem list2_l (l : List Int) (hl : l.length ≤ 68719476736) (hi : ∀ x ∈ l, inI64 x) : ∀ (d i : Nat), d + i = l.length → Ev (fun k => hallmarkref06_list.l0 k l 2 (mk (pre2 l i)) (i : Int)) (mk (pre2 l l.length)) := by
  intro d
  induction d with
  | zero =>
    intro i hd
    have e : i = l.length := by omega
    refine ev_step (f := fun _ => some (mk (pre2 l l.length))) (fun k => ?_) (Ev.now _)
    show hallmarkref06_list.l0 (k + 1) l 2 (mk (pre2 l i)) (i : Int) = some (mk (pre2 l l.length))
    rw [hallmarkref06_list.l0, if_neg (by omega), e]
  | succ d ih =>
    intro i hd
    have hlt : i < l.length := by omega
    have hb := pre2_len l hl hi i
    have hs := pre2_succ l i hlt
    have hx := hi l[i] (List.getElem_mem hlt)
    have hsz := shD_size60 l[i] hx
    have hrd : rd l (i : Int) = l[i] := by
      unfold rd
      rw [Int.toNat_natCast, List.getD_eq_getElem?_getD, List.getElem?_eq_getElem hlt, Option.getD_some]
    obtain ⟨Q, hQ⟩ : ∃ Q, (if 0 < i then pre2 l i ++ [44] else pre2 l i) = Q := ⟨_, rfl⟩
    rw [hQ] at hs
    have hQl : Q.length ≤ 4260607557633 := by
      rw [← hQ]; split
      · rw [List.length_append]; simp only [List.length_cons, List.length_nil]; omega
      · omega
    have key : Ev (fun k => hallmarkref06_list.j1 k l 2 (mk Q) (i : Int)) (mk (pre2 l l.length)) := by
      refine ev_step (f := fun k => (hallmarkref06_num.f k l[i]).bind fun t => if (mk Q).size + t.size ≤ 9223372036854775807 then hallmarkref06_list.l0 k l 2 (mk Q ++ t) ((i + 1 : Nat) : Int) else none) (fun k => ?_) ?_
      · show hallmarkref06_list.j1 (k + 1) l 2 (mk Q) (i : Int) = _
        rw [hallmarkref06_list.j1, if_neg (by decide), if_neg (by decide), if_pos (by omega), if_pos (by omega), hrd, w_nat i (by omega)]
      · refine Ev.bind (num_ev _ hx) ?_
        have e : mk Q ++ shD l[i] = mk (pre2 l (i + 1)) := by
          rw [hs, ← mk_app, ← mk_eq]
        refine Ev.congr (fun k => by rw [if_pos (by rw [size_mk]; omega), e]) (ih (i + 1) (by omega))
    refine ev_step (f := fun k => hallmarkref06_list.j1 k l 2 (mk Q) (i : Int)) (fun k => ?_) key
    show hallmarkref06_list.l0 (k + 1) l 2 (mk (pre2 l i)) (i : Int) = _
    rw [hallmarkref06_list.l0, if_pos (by omega), ← hQ]
    by_cases h0 : 0 < i
    · rw [if_pos (by omega), size_mk, if_pos (by omega), if_pos h0, show (⟨#[44]⟩ : ByteArray) = mk [44] from rfl, mk_app]
    · rw [if_neg (by omega), if_neg h0]
theorem list2_ev (l : List Int) (hl : l.length ≤ 68719476736) (hi : ∀ x ∈ l, inI64 x) : Ev (fun k => hallmarkref06_list.f k l 2) (mk (jn [44] (l.map shD))) := by
  have := list2_l l hl hi l.length 0 (by omega)
  have e : pre2 l l.length = jn [44] (l.map shD) := by unfold pre2; rw [List.take_of_length_le (Nat.le_refl _)]
  rw [e] at this
  exact this
theorem end_ev (K a tt els : Int) (l m : List Int) (hl : l.length ≤ 68719476736) (hi : ∀ x ∈ l, inI64 x) (hm : m.length ≤ 68719476736) (hj : ∀ x ∈ m, inI64 x) (ha : inI64 a) (ht : inI64 tt) (he : inI64 els) : Ev (fun k => hallmarkref06_end.f k K a tt els l m) (endS K a tt els l m) := by
  obtain ⟨K1, h1⟩ := num_ev tt ht
  obtain ⟨K2, h2⟩ := list_ev l hl hi
  obtain ⟨K3, h3⟩ := num_ev els he
  obtain ⟨K4, h4⟩ := list_ev m hm hj
  obtain ⟨K5, h5⟩ := num_ev a ha
  have s1 := shD_size tt ht
  have s2 := jn_all_len l hl hi
  have s3 := shD_size els he
  have s4 := jn_all_len m hm hj
  have s5 := shD_size a ha
  refine ⟨K1 + K2 + K3 + K4 + K5, fun k hk => ?_⟩
  have e1 : hallmarkref06_num.f k tt = some (shD tt) := h1 k (by omega)
  have e2 : hallmarkref06_list.f k l 1 = some (mk (jn [44] (l.map vF))) := h2 k (by omega)
  have e3 : hallmarkref06_num.f k els = some (shD els) := h3 k (by omega)
  have e4 : hallmarkref06_list.f k m 1 = some (mk (jn [44] (m.map vF))) := h4 k (by omega)
  have e5 : hallmarkref06_num.f k a = some (shD a) := h5 k (by omega)
  have c1 : (⟨#[40]⟩ : ByteArray).size = 1 := rfl
  have c2 : (⟨#[41]⟩ : ByteArray).size = 1 := rfl
  have c3 : (⟨#[32]⟩ : ByteArray).size = 1 := rfl
  have c4 : (⟨#[98, 114, 97, 110, 99, 104, 32, 118]⟩ : ByteArray).size = 8 := rfl
  have z2 := size_mk (jn [44] (l.map vF))
  have z4 := size_mk (jn [44] (m.map vF))
  have v1 : (⟨#[98, 114, 97, 110, 99, 104, 32, 118]⟩ : ByteArray) = branchS ++ vS := rfl
  have v2 : (⟨#[114, 101, 116, 32, 118]⟩ : ByteArray) = retS ++ vS := rfl
  have v3 : (⟨#[115, 116, 111, 112, 32, 118]⟩ : ByteArray) = stopS ++ vS := rfl
  have v4 : (⟨#[32]⟩ : ByteArray) = sp := rfl
  have v5 : (⟨#[106, 117, 109, 112, 32]⟩ : ByteArray) = jumpS := rfl
  show hallmarkref06_end.f k K a tt els l m = some (endS K a tt els l m)
  unfold hallmarkref06_end.f endS
  have br : ∀ q : List Int, brS vF q = (⟨#[40]⟩ : ByteArray) ++ mk (jn [44] (q.map vF)) ++ ⟨#[41]⟩ := fun q => rfl
  have vv : vF a = vS ++ shD a := rfl
  rw [e1, Option.bind_some, if_pos (by omega), e2, Option.bind_some, if_pos (by simp only [ByteArray.size_append]; omega), if_pos (by simp only [ByteArray.size_append]; omega), e3, Option.bind_some, if_pos (by omega), e4, Option.bind_some, if_pos (by simp only [ByteArray.size_append]; omega), if_pos (by simp only [ByteArray.size_append]; omega)]
  by_cases k0 : K = 0
  · rw [if_pos k0, if_pos k0, if_pos (by simp only [ByteArray.size_append]; omega), v5]
    simp only [br, ByteArray.append_assoc]
  · rw [if_neg k0, if_neg k0]
    by_cases k1 : K = 1
    · rw [if_pos k1, if_pos k1, e5, Option.bind_some, if_pos (by omega), if_pos (by simp only [ByteArray.size_append]; omega), if_pos (by simp only [ByteArray.size_append]; omega), if_pos (by simp only [ByteArray.size_append]; omega), if_pos (by simp only [ByteArray.size_append]; omega), v1, v4, vv]
      simp only [br, ByteArray.append_assoc]
    · rw [if_neg k1, if_neg k1]
      by_cases k2 : K = 2
      · rw [if_pos k2, if_pos k2, e5, Option.bind_some, if_pos (by omega), v2, vv, ByteArray.append_assoc]
      · rw [if_neg k2, if_neg k2]
        by_cases k3 : K = 3
        · rw [if_pos k3, if_pos k3, e5, Option.bind_some, if_pos (by omega), v3, vv, ByteArray.append_assoc]
        · rw [if_neg k3, if_neg k3]
theorem mk_bl (s : ByteArray) : mk (bl s) = s := (mk_eq s).symm
theorem func_l1 (x5 ret : Int) (bs : List (S59)) (ps : List Int) (ops : List (S24)) (e0 e1 e2 e3 : Int) (el em : List Int) (n0 : Int) (hok : ∀ o ∈ ops, opOk o) (hlen : ops.length ≤ 2048) (hn0 : 0 ≤ n0) (hn1 : n0 ≤ 8589934592)
    (hel : el.length ≤ 2048 ∧ ∀ x ∈ el, inI64 x) (hem : em.length ≤ 2048 ∧ ∀ x ∈ em, inI64 x) (he1 : inI64 e1) (he2 : inI64 e2) (he3 : inI64 e3) (res : ByteArray) :
    ∀ (d j : Nat), d + j = ops.length → ∀ (x : List UInt8), x.length ≤ 1152921504606846976 + j * 1048700 →
      Ev (fun k => hallmarkref06_Func.l0 k (mk (x ++ opsL (n0 + j) (ops.drop j) ++ [32, 32] ++ bl (endS e0 e1 e2 e3 el em) ++ [10])) (n0 + (ops.length : Nat)) (wrap64 (x5 + 1)) ret bs) res →
      Ev (fun k => hallmarkref06_Func.l1 k (mk x) (n0 + j) x5 (j : Int) ret bs ps ops e0 e1 e2 e3 el em) res := by
  have M : ∀ {p : Prop} [Decidable p] {α : Type} (a b : α), p → (if p then a else b) = a := fun a b h => if_pos h
  intro d
  induction d with
  | zero =>
    intro j hd x hx h
    have hj : j = ops.length := by omega
    have hdr : ops.drop j = [] := List.drop_of_length_le (by omega)
    rw [hdr] at h
    simp only [opsL, List.append_nil] at h
    have sl := brS_size el (by omega) hel.2
    have sm := brS_size em (by omega) hem.2
    have hes : (endS e0 e1 e2 e3 el em).size ≤ 17592186044416 := by
      have a1 := vF_size e1 he1
      have a2 := shD_size e2 he2
      have a3 := shD_size e3 he3
      have c1 : jumpS.size = 5 := rfl
      have c2 : branchS.size = 7 := rfl
      have c3 : retS.size = 4 := rfl
      have c4 : stopS.size = 5 := rfl
      have c5 : sp.size = 1 := rfl
      have c6 : (⟨#[63]⟩ : ByteArray).size = 1 := rfl
      unfold endS; repeat' split
      all_goals (try simp only [ByteArray.size_append]); omega
    have c2 : (⟨#[32, 32]⟩ : ByteArray).size = 2 := rfl
    refine ev_step (fun k => hallmarkref06_Func.l1.eq_2 _ _ _ _ _ _ _ _ _ _ _ _ _ _ _) ?_
    refine Ev.congr (fun k => by rw [if_neg (by omega), if_pos (by rw [size_mk]; omega)]) (Ev.bind (end_ev e0 e1 e2 e3 el em (by omega) hel.2 (by omega) hem.2 he1 he2 he3) ?_)
    refine Ev.congr (fun k => by rw [if_pos (by rw [ByteArray.size_append, size_mk]; omega), if_pos (by rw [ByteArray.size_append, ByteArray.size_append, size_mk]; omega)]) ?_
    have e : ((mk x ++ (⟨#[32, 32]⟩ : ByteArray)) ++ endS e0 e1 e2 e3 el em) ++ (⟨#[10]⟩ : ByteArray) = mk (x ++ [32, 32] ++ bl (endS e0 e1 e2 e3 el em) ++ [10]) := by
      rw [show (⟨#[32, 32]⟩ : ByteArray) = mk [32, 32] from rfl, show (⟨#[10]⟩ : ByteArray) = mk [10] from rfl, ← mk_bl (endS e0 e1 e2 e3 el em), mk_app, mk_app, mk_app, mk_bl]
    rw [e, hj]
    exact h
  | succ d ih =>
    intro j hd x hx h
    have hlt : j < ops.length := by omega
    have hrd : rd_T24 ops (j : Int) = ops[j] := by
      unfold rd_T24
      rw [Int.toNat_natCast, List.getD_eq_getElem?_getD, List.getElem?_eq_getElem hlt, Option.getD_some]
    have hdr : ops.drop j = ops[j] :: ops.drop (j + 1) := List.drop_eq_getElem_cons hlt
    have hoo := hok _ (List.getElem_mem hlt)
    obtain ⟨o, ho⟩ : ∃ o, ops[j] = o := ⟨_, rfl⟩
    rw [ho] at hrd hdr hoo
    have hin : inI64 (n0 + (j : Int)) := ⟨by omega, by omega⟩
    have hw1 : wrap64 (n0 + (j : Int) + 1) = n0 + ((j + 1 : Nat) : Int) := by unfold wrap64; omega
    have hll := lineL_len (n0 + j) o hoo hin
    have hol := opL_len o hoo
    have hos : (outS o.f0 o.f1 o.f2 o.f3 o.f4 o.f5 o.f6 o.f7 (fieldsL o.f0).data.toList).size ≤ 1048596 := by
      have e : (opL o).length = (outS o.f0 o.f1 o.f2 o.f3 o.f4 o.f5 o.f6 o.f7 (fieldsL o.f0).data.toList).size := by unfold opL bl; simp
      omega
    have hds := shD_size (n0 + j) hin
    have c1 : (⟨#[32, 32, 118]⟩ : ByteArray).size = 3 := rfl
    have c2 : (⟨#[32, 61, 32]⟩ : ByteArray).size = 3 := rfl
    obtain ⟨⟨h1, h2, h3⟩, h4, h5, h6, h7⟩ := hoo
    have OE : Ev (fun k => hallmarkref06_Op.f k o.f0 o.f1 o.f2 o.f3 o.f4 o.f5 o.f6 o.f7) (outS o.f0 o.f1 o.f2 o.f3 o.f4 o.f5 o.f6 o.f7 (fieldsL o.f0).data.toList) := by
      have := Op_ev o.f0 o.f1 o.f2 o.f3 o.f4 o.f5 o.f6 o.f7 (by omega) (by omega) h3 h4 h5 h6 h7
      rw [← same_op] at this
      exact this
    refine ev_step (fun k => hallmarkref06_Func.l1.eq_2 _ _ _ _ _ _ _ _ _ _ _ _ _ _ _) ?_
    rw [hrd]
    refine Ev.congr (fun k => by rw [if_pos (by omega), if_pos (by rw [size_mk]; omega)]) (Ev.bind (num_ev _ hin) ?_)
    refine Ev.congr (fun k => by rw [if_pos (by rw [ByteArray.size_append, size_mk]; omega), if_pos (by rw [ByteArray.size_append, ByteArray.size_append, size_mk]; omega), if_pos (by omega)]) (Ev.bind OE ?_)
    refine Ev.congr (fun k => by rw [if_pos (by rw [ByteArray.size_append, ByteArray.size_append, ByteArray.size_append, size_mk]; omega), if_pos (by rw [ByteArray.size_append, ByteArray.size_append, ByteArray.size_append, ByteArray.size_append, size_mk]; omega), hw1, w_nat j (by omega)]) ?_
    have e : ((((mk x ++ (⟨#[32, 32, 118]⟩ : ByteArray)) ++ shD (n0 + j)) ++ (⟨#[32, 61, 32]⟩ : ByteArray)) ++ outS o.f0 o.f1 o.f2 o.f3 o.f4 o.f5 o.f6 o.f7 (fieldsL o.f0).data.toList) ++ (⟨#[10]⟩ : ByteArray) = mk (x ++ lineL (n0 + j) o) := by
      rw [show (⟨#[32, 32, 118]⟩ : ByteArray) = mk [32, 32, 118] from rfl, show (⟨#[32, 61, 32]⟩ : ByteArray) = mk [32, 61, 32] from rfl, show (⟨#[10]⟩ : ByteArray) = mk [10] from rfl, shD_mk, ← mk_bl (outS o.f0 o.f1 o.f2 o.f3 o.f4 o.f5 o.f6 o.f7 (fieldsL o.f0).data.toList), mk_app, mk_app, mk_app, mk_app, mk_app]
      unfold lineL opL
      have ev : bl (vF (n0 + j)) = 118 :: Lib.itoa (n0 + j) := vF_list _
      rw [ev]
      simp only [List.append_assoc, List.cons_append, List.nil_append]
    rw [e]
    refine ih (j + 1) (by omega) _ (by rw [List.length_append]; omega) ?_
    rw [hdr] at h
    simp only [opsL] at h
    have en : n0 + (j : Int) + 1 = n0 + ((j + 1 : Nat) : Int) := by omega
    rw [en] at h
    simp only [List.append_assoc] at h ⊢
    exact h
theorem func_l0 (ret : Int) (bs : List (S59)) (hok : ∀ b ∈ bs, blockOk b) (hlen : bs.length ≤ 2048) : ∀ (d i : Nat), d + i = bs.length → ∀ (n : Int) (x : List UInt8), 0 ≤ n → n ≤ i * 4096 → x.length ≤ 576460752303423488 + i * 2200000000 →
    Ev (fun k => hallmarkref06_Func.l0 k (mk x) n (i : Int) ret bs) (mk (x ++ blocksL i n (bs.drop i))) := by
  intro d
  induction d with
  | zero =>
    intro i hd n x h0 h1 hx
    have hdr : bs.drop i = [] := List.drop_of_length_le (by omega)
    rw [hdr]
    simp only [blocksL, List.append_nil]
    refine ev_step (fun k => hallmarkref06_Func.l0.eq_2 _ _ _ _ _ _) ?_
    exact Ev.congr (fun k => by rw [if_neg (by omega)]) (Ev.now _)
  | succ d ih =>
    intro i hd n x h0 h1 hx
    have hlt : i < bs.length := by omega
    have hrd : rd_T59 bs (i : Int) = bs[i] := by
      unfold rd_T59
      rw [Int.toNat_natCast, List.getD_eq_getElem?_getD, List.getElem?_eq_getElem hlt, Option.getD_some]
    have hdr : bs.drop i = bs[i] :: bs.drop (i + 1) := List.drop_eq_getElem_cons hlt
    have hbo := hok _ (List.getElem_mem hlt)
    obtain ⟨b, hb⟩ : ∃ b, bs[i] = b := ⟨_, rfl⟩
    rw [hb] at hrd hdr hbo
    obtain ⟨⟨p1, p2⟩, ⟨o1, o2⟩, q1, q2, q3, q4, q5⟩ := hbo
    have hii : inI64 (i : Int) := ⟨by omega, by omega⟩
    have hds := shD_size (i : Int) hii
    have hbt := brt_small b.f0 p1 p2
    have hjl : (jn [44] (b.f0.map tF)).length ≤ 124930 := by
      have e3 := size_of_list2 (jn [44] (b.f0.map tF))
      unfold brS at hbt
      rw [ByteArray.size_append, ByteArray.size_append] at hbt
      omega
    have hes := endS_small b.f2.f0 b.f2.f1 b.f2.f2 b.f2.f3 b.f2.f4 b.f2.f5 q1 q2 q3 q4 q5
    have hol := opsL_len b.f1 (n + b.f0.length) (by omega) (by omega) o2
    have c1 : (⟨#[40]⟩ : ByteArray).size = 1 := rfl
    have hw : wrap64 (n + (b.f0.length : Int)) = n + (b.f0.length : Int) := wrap_id (by omega) (by omega)
    have eb : (bl (brS tF b.f0)).length = (brS tF b.f0).size := by unfold bl; simp
    have ee : (bl (endS b.f2.f0 b.f2.f1 b.f2.f2 b.f2.f3 b.f2.f4 b.f2.f5)).length = (endS b.f2.f0 b.f2.f1 b.f2.f2 b.f2.f3 b.f2.f4 b.f2.f5).size := by unfold bl; simp
    have ei : (bl (shD (i : Int))).length = (shD (i : Int)).size := by unfold bl; simp
    have hz : (x ++ bl (shD (i : Int)) ++ bl (brS tF b.f0) ++ [10]).length ≤ 576460752303423488 + i * 2200000000 + 200000 := by
      simp only [List.length_append, List.length_cons, List.length_nil]; omega
    rw [hdr]
    refine ev_step (fun k => hallmarkref06_Func.l0.eq_2 _ _ _ _ _ _) ?_
    rw [hrd]
    refine Ev.congr (fun k => by rw [if_pos (by omega), if_pos (by omega)]) (Ev.bind (num_ev _ hii) ?_)
    refine Ev.congr (fun k => by rw [if_pos (by rw [size_mk]; omega), if_pos (by rw [ByteArray.size_append, size_mk]; omega)]) (Ev.bind (list0_ev b.f0 (by omega) p2) ?_)
    refine Ev.congr (fun k => by rw [if_pos (by rw [ByteArray.size_append, ByteArray.size_append, size_mk, size_mk]; omega), if_pos (by rw [ByteArray.size_append, ByteArray.size_append, ByteArray.size_append, size_mk, size_mk]; omega), hw]) ?_
    have e : (((mk x ++ shD (i : Int)) ++ (⟨#[40]⟩ : ByteArray)) ++ mk (jn [44] (b.f0.map tF))) ++ (⟨#[41, 10]⟩ : ByteArray) = mk (x ++ bl (shD (i : Int)) ++ bl (brS tF b.f0) ++ [10]) := by
      have e1 : bl (brS tF b.f0) = [40] ++ jn [44] (b.f0.map tF) ++ [41] := by
        have : brS tF b.f0 = mk ([40] ++ jn [44] (b.f0.map tF) ++ [41]) := by rw [← mk_app, ← mk_app]; rfl
        rw [this]; simp [bl, mk]
      rw [e1, show (⟨#[40]⟩ : ByteArray) = mk [40] from rfl, show (⟨#[41, 10]⟩ : ByteArray) = mk [41, 10] from rfl, ← mk_bl (shD (i : Int)), mk_app, mk_app, mk_app, mk_app, mk_bl]
      simp only [List.append_assoc, List.cons_append, List.nil_append]
    rw [e]
    have key := func_l1 (i : Int) ret bs b.f0 b.f1 b.f2.f0 b.f2.f1 b.f2.f2 b.f2.f3 b.f2.f4 b.f2.f5 (n + b.f0.length) o2 o1 (by omega) (by omega) q1 q2 q3 q4 q5 (mk (x ++ blocksL i n (b :: bs.drop (i + 1)))) b.f1.length 0 (by omega) (x ++ bl (shD (i : Int)) ++ bl (brS tF b.f0) ++ [10]) (by omega)
    have z0 : n + (b.f0.length : Int) + ((0 : Nat) : Int) = n + (b.f0.length : Int) := by omega
    rw [z0, List.drop_zero] at key
    refine key ?_
    have hih := ih (i + 1) (by omega) (n + b.f0.length + b.f1.length) (x ++ blockL i n b) (by omega) (by omega) (by
      unfold blockL endL
      simp only [List.length_append, List.length_cons, List.length_nil]; omega)
    rw [w_nat i (by omega)]
    have e2 : x ++ bl (shD (i : Int)) ++ bl (brS tF b.f0) ++ [10] ++ opsL (n + b.f0.length) b.f1 ++ [32, 32] ++ bl (endS b.f2.f0 b.f2.f1 b.f2.f2 b.f2.f3 b.f2.f4 b.f2.f5) ++ [10] = x ++ blockL i n b := by
      unfold blockL endL
      simp only [List.append_assoc]
    rw [e2]
    simp only [blocksL]
    rw [← List.append_assoc]
    have e3 : ((i : Int) + 1) = ((i + 1 : Nat) : Int) := by omega
    rw [e3]
    exact hih
theorem Func_ev (f : S44) (h : funOk f) : Ev (fun k => hallmarkref06_Func.f k f.f0 f.f1) (mk (funL f)) := by
  obtain ⟨h1, h2, h3⟩ := h
  have hs := tF_size f.f0 h1
  have c1 : (⟨#[102, 117, 110, 99, 32]⟩ : ByteArray).size = 5 := rfl
  have et : (bl (tF f.f0)).length = (tF f.f0).size := by unfold bl; simp
  have key := func_l0 f.f0 f.f1 h3 h2 f.f1.length 0 (by omega) 0 ([102, 117, 110, 99, 32] ++ bl (tF f.f0) ++ [10]) (by omega) (by omega) (by simp only [List.length_append, List.length_cons, List.length_nil]; omega)
  refine Ev.bind (Type_ev f.f0 h1) ?_
  have e : ((⟨#[102, 117, 110, 99, 32]⟩ : ByteArray) ++ tF f.f0) ++ (⟨#[10]⟩ : ByteArray) = mk ([102, 117, 110, 99, 32] ++ bl (tF f.f0) ++ [10]) := by
    rw [show (⟨#[102, 117, 110, 99, 32]⟩ : ByteArray) = mk [102, 117, 110, 99, 32] from rfl, show (⟨#[10]⟩ : ByteArray) = mk [10] from rfl, ← mk_bl (tF f.f0), mk_app, mk_app, mk_bl]
  refine Ev.congr (f := fun k => hallmarkref06_Func.l0 k (mk ([102, 117, 110, 99, 32] ++ bl (tF f.f0) ++ [10])) 0 0 f.f0 f.f1) (fun k => by rw [if_pos (by omega), if_pos (by rw [ByteArray.size_append]; omega), e]) ?_
  rw [List.drop_zero] at key
  exact key
theorem prog_l2 (ss : List (S52)) (cs : List (S54)) (fs : List (S44)) (hok : ∀ f ∈ fs, funOk f) (hfl : ∀ f ∈ fs, (funL f).length ≤ 8000000000000) (hlen : fs.length ≤ 2048) : ∀ (d i : Nat), d + i = fs.length → ∀ (x : List UInt8), x.length ≤ 576460752303423488 + i * 8000000000000 →
    Ev (fun k => hallmarkref06_Prog.l2 k (mk x) (i : Int) ss cs fs) (mk (x ++ (fs.drop i).flatMap funL)) := by
  intro d
  induction d with
  | zero =>
    intro i hd x hx
    have hdr : fs.drop i = [] := List.drop_of_length_le (by omega)
    rw [hdr, List.flatMap_nil, List.append_nil]
    refine ev_step (fun k => hallmarkref06_Prog.l2.eq_2 _ _ _ _ _ _) ?_
    exact Ev.congr (fun k => by rw [if_neg (by omega)]) (Ev.now _)
  | succ d ih =>
    intro i hd x hx
    have hlt : i < fs.length := by omega
    have hrd : rd_T44 fs (i : Int) = fs[i] := by
      unfold rd_T44
      rw [Int.toNat_natCast, List.getD_eq_getElem?_getD, List.getElem?_eq_getElem hlt, Option.getD_some]
    have hdr : fs.drop i = fs[i] :: fs.drop (i + 1) := List.drop_eq_getElem_cons hlt
    have hfo := hok _ (List.getElem_mem hlt)
    have hl := hfl _ (List.getElem_mem hlt)
    refine ev_step (fun k => hallmarkref06_Prog.l2.eq_2 _ _ _ _ _ _) ?_
    rw [hrd]
    refine Ev.congr (fun k => by rw [if_pos (by omega), if_pos (by omega)]) (Ev.bind (Func_ev _ hfo) ?_)
    refine Ev.congr (fun k => by rw [if_pos (by rw [size_mk, size_mk]; omega), w_nat i (by omega), mk_app]) ?_
    have := ih (i + 1) (by omega) (x ++ funL fs[i]) (by rw [List.length_append]; omega)
    rw [hdr, List.flatMap_cons, ← List.append_assoc]
    exact this
theorem prog_l1 (ss : List (S52)) (cs : List (S54)) (fs : List (S44)) (hok : ∀ c ∈ cs, clsOk c) (hlen : cs.length ≤ 2048) (res : ByteArray) : ∀ (d i : Nat), d + i = cs.length → ∀ (x : List UInt8), x.length ≤ 288230376151711744 + i * 300000 →
    Ev (fun k => hallmarkref06_Prog.l2 k (mk (x ++ (cs.drop i).flatMap clsL)) 0 ss cs fs) res → Ev (fun k => hallmarkref06_Prog.l1 k (mk x) (i : Int) ss cs fs) res := by
  intro d
  induction d with
  | zero =>
    intro i hd x hx h
    have hdr : cs.drop i = [] := List.drop_of_length_le (by omega)
    rw [hdr, List.flatMap_nil, List.append_nil] at h
    refine ev_step (fun k => hallmarkref06_Prog.l1.eq_2 _ _ _ _ _ _) ?_
    exact Ev.congr (fun k => by rw [if_neg (by omega)]) h
  | succ d ih =>
    intro i hd x hx h
    have hlt : i < cs.length := by omega
    have hrd : rd_T54 cs (i : Int) = cs[i] := by
      unfold rd_T54
      rw [Int.toNat_natCast, List.getD_eq_getElem?_getD, List.getElem?_eq_getElem hlt, Option.getD_some]
    have hdr : cs.drop i = cs[i] :: cs.drop (i + 1) := List.drop_eq_getElem_cons hlt
    have hco := hok _ (List.getElem_mem hlt)
    obtain ⟨c, hc⟩ : ∃ c, cs[i] = c := ⟨_, rfl⟩
    rw [hc] at hrd hdr hco
    obtain ⟨p1, p2, p3, p4⟩ := hco
    have hbt := brt_small c.f0 p1 p2
    have hj0 : (jn [44] (c.f0.map tF)).length ≤ 124930 := by
      have h1 := jn_len (c.f0.map tF)
      have h2 := lensB_map tF 60 tF_size c.f0 p2
      rw [List.length_map] at h1
      omega
    have hj2 : (jn [44] (c.f1.map shD)).length ≤ 124930 := by
      have h1 := jn_len (c.f1.map shD)
      have h2 := lensB_map shD 60 shD_size60 c.f1 p4
      rw [List.length_map] at h1
      omega
    have c1 : (⟨#[99, 108, 97, 115, 115, 32, 40]⟩ : ByteArray).size = 7 := rfl
    have c2 : (⟨#[41, 32, 91]⟩ : ByteArray).size = 3 := rfl
    have eb : (bl (brS tF c.f0)).length = (brS tF c.f0).size := by unfold bl; simp
    refine ev_step (fun k => hallmarkref06_Prog.l1.eq_2 _ _ _ _ _ _) ?_
    rw [hrd]
    refine Ev.congr (fun k => by rw [if_pos (by omega), if_pos (by rw [size_mk]; omega), if_pos (by omega)]) (Ev.bind (list0_ev c.f0 (by omega) p2) ?_)
    refine Ev.congr (fun k => by rw [if_pos (by rw [ByteArray.size_append, size_mk, size_mk]; omega), if_pos (by rw [ByteArray.size_append, ByteArray.size_append, size_mk, size_mk]; omega)]) (Ev.bind (list2_ev c.f1 (by omega) p4) ?_)
    have e : (((((mk x ++ (⟨#[99, 108, 97, 115, 115, 32, 40]⟩ : ByteArray)) ++ mk (jn [44] (c.f0.map tF))) ++ (⟨#[41, 32, 91]⟩ : ByteArray)) ++ mk (jn [44] (c.f1.map shD))) ++ (⟨#[93, 10]⟩ : ByteArray)) = mk (x ++ clsL c) := by
      have e1 : bl (brS tF c.f0) = [40] ++ jn [44] (c.f0.map tF) ++ [41] := by
        have : brS tF c.f0 = mk ([40] ++ jn [44] (c.f0.map tF) ++ [41]) := by rw [← mk_app, ← mk_app]; rfl
        rw [this]; simp [bl, mk]
      unfold clsL
      rw [e1, show (⟨#[99, 108, 97, 115, 115, 32, 40]⟩ : ByteArray) = mk [99, 108, 97, 115, 115, 32, 40] from rfl, show (⟨#[41, 32, 91]⟩ : ByteArray) = mk [41, 32, 91] from rfl, show (⟨#[93, 10]⟩ : ByteArray) = mk [93, 10] from rfl, mk_app, mk_app, mk_app, mk_app, mk_app]
      simp only [List.append_assoc, List.cons_append, List.nil_append]
    refine Ev.congr (fun k => by rw [if_pos (by rw [ByteArray.size_append, ByteArray.size_append, ByteArray.size_append, size_mk, size_mk, size_mk]; omega), if_pos (by rw [ByteArray.size_append, ByteArray.size_append, ByteArray.size_append, ByteArray.size_append, size_mk, size_mk, size_mk]; omega), e, w_nat i (by omega)]) ?_
    refine ih (i + 1) (by omega) (x ++ clsL c) (by unfold clsL; simp only [List.length_append, List.length_cons, List.length_nil]; omega) ?_
    rw [hdr, List.flatMap_cons, ← List.append_assoc] at h
    exact h
theorem prog_l0 (ss : List (S52)) (cs : List (S54)) (fs : List (S44)) (hok : ∀ s ∈ ss, sigOk s) (hlen : ss.length ≤ 2048) (res : ByteArray) : ∀ (d i : Nat), d + i = ss.length → ∀ (x : List UInt8), x.length ≤ 144115188075855872 + i * 300000 →
    Ev (fun k => hallmarkref06_Prog.l1 k (mk (x ++ (ss.drop i).flatMap sigL)) 0 ss cs fs) res → Ev (fun k => hallmarkref06_Prog.l0 k (mk x) (i : Int) ss cs fs) res := by
  intro d
  induction d with
  | zero =>
    intro i hd x hx h
    have hdr : ss.drop i = [] := List.drop_of_length_le (by omega)
    rw [hdr, List.flatMap_nil, List.append_nil] at h
    refine ev_step (fun k => hallmarkref06_Prog.l0.eq_2 _ _ _ _ _ _) ?_
    exact Ev.congr (fun k => by rw [if_neg (by omega)]) h
  | succ d ih =>
    intro i hd x hx h
    have hlt : i < ss.length := by omega
    have hrd : rd_T52 ss (i : Int) = ss[i] := by
      unfold rd_T52
      rw [Int.toNat_natCast, List.getD_eq_getElem?_getD, List.getElem?_eq_getElem hlt, Option.getD_some]
    have hdr : ss.drop i = ss[i] :: ss.drop (i + 1) := List.drop_eq_getElem_cons hlt
    have hco := hok _ (List.getElem_mem hlt)
    obtain ⟨c, hc⟩ : ∃ c, ss[i] = c := ⟨_, rfl⟩
    rw [hc] at hrd hdr hco
    obtain ⟨p1, p2, p3⟩ := hco
    have hbt := brt_small c.f0 p1 p2
    have hts := tF_size c.f1 p3
    have hj0 : (jn [44] (c.f0.map tF)).length ≤ 124930 := by
      have h1 := jn_len (c.f0.map tF)
      have h2 := lensB_map tF 60 tF_size c.f0 p2
      rw [List.length_map] at h1
      omega
    have c1 : (⟨#[115, 105, 103, 32, 40]⟩ : ByteArray).size = 5 := rfl
    have c2 : (⟨#[41, 32]⟩ : ByteArray).size = 2 := rfl
    have eb : (bl (brS tF c.f0)).length = (brS tF c.f0).size := by unfold bl; simp
    have et : (bl (tF c.f1)).length = (tF c.f1).size := by unfold bl; simp
    refine ev_step (fun k => hallmarkref06_Prog.l0.eq_2 _ _ _ _ _ _) ?_
    rw [hrd]
    refine Ev.congr (fun k => by rw [if_pos (by omega), if_pos (by rw [size_mk]; omega), if_pos (by omega)]) (Ev.bind (list0_ev c.f0 (by omega) p2) ?_)
    refine Ev.congr (fun k => by rw [if_pos (by rw [ByteArray.size_append, size_mk, size_mk]; omega), if_pos (by rw [ByteArray.size_append, ByteArray.size_append, size_mk, size_mk]; omega)]) (Ev.bind (Type_ev c.f1 p3) ?_)
    have e : (((((mk x ++ (⟨#[115, 105, 103, 32, 40]⟩ : ByteArray)) ++ mk (jn [44] (c.f0.map tF))) ++ (⟨#[41, 32]⟩ : ByteArray)) ++ tF c.f1) ++ (⟨#[10]⟩ : ByteArray)) = mk (x ++ sigL c) := by
      have e1 : bl (brS tF c.f0) = [40] ++ jn [44] (c.f0.map tF) ++ [41] := by
        have : brS tF c.f0 = mk ([40] ++ jn [44] (c.f0.map tF) ++ [41]) := by rw [← mk_app, ← mk_app]; rfl
        rw [this]; simp [bl, mk]
      unfold sigL
      rw [e1, show (⟨#[115, 105, 103, 32, 40]⟩ : ByteArray) = mk [115, 105, 103, 32, 40] from rfl, show (⟨#[41, 32]⟩ : ByteArray) = mk [41, 32] from rfl, show (⟨#[10]⟩ : ByteArray) = mk [10] from rfl, ← mk_bl (tF c.f1), mk_app, mk_app, mk_app, mk_app, mk_app, mk_bl]
      simp only [List.append_assoc, List.cons_append, List.nil_append]
    refine Ev.congr (fun k => by rw [if_pos (by rw [ByteArray.size_append, ByteArray.size_append, ByteArray.size_append, size_mk, size_mk]; omega), if_pos (by rw [ByteArray.size_append, ByteArray.size_append, ByteArray.size_append, ByteArray.size_append, size_mk, size_mk]; omega), e, w_nat i (by omega)]) ?_
    refine ih (i + 1) (by omega) (x ++ sigL c) (by unfold sigL; simp only [List.length_append, List.length_cons, List.length_nil]; omega) ?_
    rw [hdr, List.flatMap_cons, ← List.append_assoc] at h
    exact h
theorem flat_len {α : Type} (g : α → List UInt8) (B : Nat) : ∀ (l : List α), (∀ x ∈ l, (g x).length ≤ B) → (l.flatMap g).length ≤ l.length * B
  | [], _ => by simp
  | x :: l, h => by
    have h1 := h x List.mem_cons_self
    have h2 := flat_len g B l (fun y hy => h y (List.mem_cons_of_mem _ hy))
    rw [List.flatMap_cons, List.length_append, List.length_cons, Nat.add_mul]
    omega
theorem sigL_len (c : S52) (h : sigOk c) : (sigL c).length ≤ 300000 := by
  obtain ⟨p1, p2, p3⟩ := h
  have hbt := brt_small c.f0 p1 p2
  have hts := tF_size c.f1 p3
  have eb : (bl (brS tF c.f0)).length = (brS tF c.f0).size := by unfold bl; simp
  have et : (bl (tF c.f1)).length = (tF c.f1).size := by unfold bl; simp
  unfold sigL; simp only [List.length_append, List.length_cons, List.length_nil]; omega
theorem clsL_len (c : S54) (h : clsOk c) : (clsL c).length ≤ 300000 := by
  obtain ⟨p1, p2, p3, p4⟩ := h
  have hbt := brt_small c.f0 p1 p2
  have hj2 : (jn [44] (c.f1.map shD)).length ≤ 124930 := by
    have h1 := jn_len (c.f1.map shD)
    have h2 := lensB_map shD 60 shD_size60 c.f1 p4
    rw [List.length_map] at h1
    omega
  have eb : (bl (brS tF c.f0)).length = (brS tF c.f0).size := by unfold bl; simp
  unfold clsL; simp only [List.length_append, List.length_cons, List.length_nil]; omega
theorem blocksL_len : ∀ (l : List (S59)) (i n : Int), 0 ≤ i → i + l.length ≤ 4096 → 0 ≤ n → n ≤ i * 4096 → (∀ b ∈ l, blockOk b) → (blocksL i n l).length ≤ l.length * 2200000000
  | [], i, n, _, _, _, _, _ => by simp [blocksL]
  | b :: l, i, n, h0, h1, h2, h3, h => by
    obtain ⟨⟨p1, p2⟩, ⟨o1, o2⟩, q1, q2, q3, q4, q5⟩ := h b List.mem_cons_self
    have h1' : i + ((l.length : Int) + 1) ≤ 4096 := by simpa using h1
    have hds := shD_size i ⟨by omega, by omega⟩
    have hbt := brt_small b.f0 p1 p2
    have hes := endS_small b.f2.f0 b.f2.f1 b.f2.f2 b.f2.f3 b.f2.f4 b.f2.f5 q1 q2 q3 q4 q5
    have hol := opsL_len b.f1 (n + b.f0.length) (by omega) (by omega) o2
    have eb : (bl (brS tF b.f0)).length = (brS tF b.f0).size := by unfold bl; simp
    have ee : (bl (endS b.f2.f0 b.f2.f1 b.f2.f2 b.f2.f3 b.f2.f4 b.f2.f5)).length = (endS b.f2.f0 b.f2.f1 b.f2.f2 b.f2.f3 b.f2.f4 b.f2.f5).size := by unfold bl; simp
    have ei : (bl (shD i)).length = (shD i).size := by unfold bl; simp
    have ih := blocksL_len l (i + 1) (n + b.f0.length + b.f1.length) (by omega) (by omega) (by omega) (by omega) (fun x hx => h x (List.mem_cons_of_mem _ hx))
    simp only [blocksL, blockL, endL, List.length_append, List.length_cons, List.length_nil, Nat.add_mul] at ih ⊢
    omega
theorem funL_len (f : S44) (h : funOk f) : (funL f).length ≤ 8000000000000 := by
  obtain ⟨h1, h2, h3⟩ := h
  have hs := tF_size f.f0 h1
  have et : (bl (tF f.f0)).length = (tF f.f0).size := by unfold bl; simp
  have hb := blocksL_len f.f1 0 0 (by omega) (by omega) (by omega) (by omega) h3
  unfold funL; simp only [List.length_append, List.length_cons, List.length_nil]; omega
theorem Prog_ev (ss : List (S52)) (cs : List (S54)) (fs : List (S44)) (h1 : ss.length ≤ 2048) (h2 : ∀ s ∈ ss, sigOk s) (h3 : cs.length ≤ 2048) (h4 : ∀ c ∈ cs, clsOk c) (h5 : fs.length ≤ 2048) (h6 : ∀ f ∈ fs, funOk f) :
    Ev (fun k => hallmarkref06_Prog.f k ss cs fs) (mk (progL ss cs fs)) := by
  have a := flat_len sigL 300000 ss (fun s hs => sigL_len s (h2 s hs))
  have b := flat_len clsL 300000 cs (fun s hs => clsL_len s (h4 s hs))
  have p2 := prog_l2 ss cs fs h6 (fun f hf => funL_len f (h6 f hf)) h5 fs.length 0 (by omega) (ss.flatMap sigL ++ cs.flatMap clsL) (by rw [List.length_append]; omega)
  rw [List.drop_zero] at p2
  have p1 := prog_l1 ss cs fs h4 h3 _ cs.length 0 (by omega) (ss.flatMap sigL) (by omega) (by rw [List.drop_zero]; exact p2)
  have p0 := prog_l0 ss cs fs h2 h1 _ ss.length 0 (by omega) [] (by simp) (by rw [List.drop_zero, List.nil_append]; exact p1)
  exact p0
end Go.Proofs.YtojmepkhbebllaaDoor.ShowBShowProgs
