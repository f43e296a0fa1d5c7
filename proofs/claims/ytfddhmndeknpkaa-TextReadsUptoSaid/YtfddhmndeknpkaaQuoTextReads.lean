/- Quotes: what the program's reader of quotes and the document's come to, in plain lists of bytes. -/
import Derived.Test.YtfddhmndeknpkaaPTextReadsx
import Derived.ShutString
set_option linter.unusedVariables false
set_option linter.unusedSimpArgs false
namespace Go.Proofs.Ytfddhmndeknpkaa.QuoTextReads
open Go Go.RowKit Go.Proofs.Ytfddhmndeknpkaa.PTextReads Go.Proofs.YtfddhmndeknpkaaW.PrintWords Go.Proofs.YtfddhmndeknpkaaW.PrintLast Go.Proofs.YtfddhmndeknpkaaW.PrintMore

/-- a text of these bytes -/
def mk (l : List UInt8) : ByteArray := ⟨l.toArray⟩
def num (l : List UInt8) : List Int := l.map fun b => (b.toNat : Int)
theorem mk_eq (s : ByteArray) : s = mk s.data.toList := by simp [mk]
theorem size_mk (l : List UInt8) : (mk l).size = l.length := size_of_list l
theorem toList_mk (l : List UInt8) : (mk l).toList = l := by rw [ByteArray.toList_eq]; simp [mk]
theorem str_num (l : List UInt8) : strOfNums (num l) = mk l := by
  unfold strOfNums mk num
  congr 2
  rw [List.map_map]
  conv => rhs; rw [← List.map_id l]
  apply List.map_congr_left
  intro b _
  simp
theorem num_app (l m : List UInt8) : num (l ++ m) = num l ++ num m := by simp [num]
theorem num_len (l : List UInt8) : (num l).length = l.length := by simp [num]
theorem bt_mk (l : List UInt8) (i : Nat) (h : i < l.length) : bt (mk l) (i : Int) = (l[i].toNat : Int) := by
  have h' : i < (mk l).size := by rw [size_mk]; exact h
  unfold bt
  rw [dif_pos (by simpa using h')]
  rfl
theorem bt0 (a : UInt8) (l : List UInt8) : bt (mk (a :: l)) 0 = (a.toNat : Int) := bt_mk (a :: l) 0 (by simp)
theorem bt1 (a b : UInt8) (l : List UInt8) : bt (mk (a :: b :: l)) 1 = (b.toNat : Int) := bt_mk (a :: b :: l) 1 (by simp)
theorem bt2 (a b c : UInt8) (l : List UInt8) : bt (mk (a :: b :: c :: l)) 2 = (c.toNat : Int) := bt_mk (a :: b :: c :: l) 2 (by simp)
theorem extract_mk (l : List UInt8) (a b : Nat) : (mk l).extract a b = mk ((l.drop a).take (b - a)) := by
  unfold mk
  apply ByteArray.ext
  rw [ByteArray.data_extract]
  simp [List.extract_eq_take_drop]
theorem extract_to (l : List UInt8) (n : Nat) : (mk l).extract 0 n = mk (l.take n) := by rw [extract_mk]; simp
theorem extract_from (l : List UInt8) (n : Nat) : (mk l).extract n (mk l).size = mk (l.drop n) := by
  rw [extract_mk, size_mk, List.take_of_length_le (by simp)]

/-! The program's quotes. -/
theorem hx_fact : ∀ n : Fin 16, Lib.indexByte [48, 49, 50, 51, 52, 53, 54, 55, 56, 57, 97, 98, 99, 100, 101, 102] (hx n.val) = n.val ∧ ((hx n.val).toNat : Int) ≠ 34 ∧ ((hx n.val).toNat : Int) ≠ 92 := by decide +kernel
theorem or_fact : ∀ n : Fin 256, (Go.bits .or .i64 (wrap64 (((n.val / 16 : Nat) : Int) * 16)) ((n.val % 16 : Nat) : Int)) % 256 = n.val := by decide +kernel
theorem index_hx (n : Nat) (h : n < 16) : strings_IndexByte.f (⟨#[48, 49, 50, 51, 52, 53, 54, 55, 56, 57, 97, 98, 99, 100, 101, 102]⟩ : ByteArray) ((hx n).toNat : Int) = some (n : Int) := by
  unfold strings_IndexByte.f
  have := (hx_fact ⟨n, h⟩).1
  simpa using this
theorem qb_ne (c : UInt8) : qb c ≠ [] := by unfold qb; repeat' split; all_goals simp
theorem one_qb (c : UInt8) (rest : List UInt8) (k : Nat) : text_one.f (k + 1) (mk (qb c ++ rest)) = some ((c.toNat : Int), ((qb c).length : Int)) := by
  by_cases h1 : c = 34 ∨ c = 92
  · have e : qb c = [92, c] := by unfold qb; rw [if_pos h1]
    rw [e]
    unfold text_one.f
    simp only [List.cons_append, List.nil_append, bt0, bt1, size_mk, List.length_cons]
    rw [if_pos (by omega), if_pos (by rfl), if_pos (by omega), if_pos (by omega)]
    rcases h1 with rfl | rfl
    · rw [if_pos (by rfl)]
      simp only [text_one.j0, bt1, size_mk, List.length_cons]
      rw [if_pos trivial, if_pos (by omega)]; rfl
    · rw [if_neg (by decide)]
      simp only [text_one.j0, bt1, size_mk, List.length_cons]
      rw [if_pos (by decide), if_pos (by omega)]; rfl
  · by_cases h2 : c < 32 ∨ 126 < c
    · have e : qb c = [92, hx (c.toNat / 16), hx (c.toNat % 16)] := by unfold qb; rw [if_neg h1, if_pos h2]
      have hc := c.toNat_lt
      have ha := hx_fact ⟨c.toNat / 16, by omega⟩
      have hb := hx_fact ⟨c.toNat % 16, by omega⟩
      have ho := or_fact ⟨c.toNat, hc⟩
      simp only at ha hb ho
      rw [e]
      unfold text_one.f
      simp only [List.cons_append, List.nil_append, bt0, bt1, bt2, size_mk, List.length_cons]
      rw [if_pos (by omega), if_pos (by rfl), if_pos (by omega), if_pos (by omega), if_neg ha.2.1]
      simp only [text_one.j0, bt1, bt2, size_mk, List.length_cons]
      rw [if_neg (by simpa using ha.2.2), if_neg (by omega), if_pos (by omega), index_hx _ (by omega)]
      simp only [Option.bind_some]
      rw [if_pos (by omega), index_hx _ (by omega)]
      simp only [Option.bind_some]
      rw [if_neg (by omega), if_neg (by omega), ho]
      rfl
    · have e : qb c = [c] := by unfold qb; rw [if_neg h1, if_neg h2]
      rw [e]
      unfold text_one.f
      simp only [List.cons_append, List.nil_append, bt0, size_mk, List.length_cons]
      rw [if_pos (by omega), if_neg (by
        intro h
        apply h1
        right
        apply UInt8.toNat_inj.1
        have : (c.toNat : Int) = 92 := h
        simp; omega)]
      rfl
theorem mod_byte (x : Int) : ∃ c : UInt8, x % 256 = (c.toNat : Int) := ⟨UInt8.ofNat (x % 256).toNat, by simp; omega⟩
theorem one_any (l : List UInt8) (hl : l ≠ []) (k : Nat) : ∃ (c : UInt8) (n : Nat), text_one.f (k + 1) (mk l) = some ((c.toNat : Int), (n : Int)) ∧ n ≤ l.length := by
  match l, hl with
  | a :: l, _ =>
    unfold text_one.f
    simp only [bt0, size_mk, List.length_cons]
    rw [if_pos (by omega)]
    by_cases h92 : (a.toNat : Int) = 92
    · rw [if_pos h92]
      match l with
      | [] =>
        rw [if_neg (by simp)]
        simp only [text_one.j0, size_mk, List.length_cons, List.length_nil]
        rw [if_neg (by simp), if_pos (by simp)]
        exact ⟨0, 0, rfl, by simp⟩
      | b :: l =>
        simp only [bt1, List.length_cons]
        rw [if_pos (by omega), if_pos (by omega)]
        have key : ∀ t : Bool, ∃ (c : UInt8) (n : Nat), text_one.j0 (k + 1) (mk (a :: b :: l)) t = some ((c.toNat : Int), (n : Int)) ∧ n ≤ l.length + 1 + 1 := by
          intro t
          simp only [text_one.j0, bt1, size_mk, List.length_cons]
          cases t with
          | true => rw [if_pos rfl, if_pos (by omega)]; exact ⟨b, 2, rfl, by omega⟩
          | false =>
            rw [if_neg (by simp)]
            match l with
            | [] => rw [if_pos (by simp)]; exact ⟨0, 0, rfl, by omega⟩
            | d :: l =>
              simp only [bt2, List.length_cons]
              rw [if_neg (by omega), if_pos (by omega)]
              simp only [strings_IndexByte.f, Option.bind_some]
              rw [if_pos (by omega)]
              split
              · exact ⟨0, 0, rfl, by omega⟩
              · split
                · exact ⟨0, 0, rfl, by omega⟩
                · obtain ⟨c, hc⟩ := mod_byte (Go.bits .or .i64 (wrap64 ((Lib.indexByte [48, 49, 50, 51, 52, 53, 54, 55, 56, 57, 97, 98, 99, 100, 101, 102] (Int.toNat ((b.toNat : Int))).toUInt8) * 16)) (Lib.indexByte [48, 49, 50, 51, 52, 53, 54, 55, 56, 57, 97, 98, 99, 100, 101, 102] (Int.toNat ((d.toNat : Int))).toUInt8))
                  exact ⟨c, 3, by rw [← hc]; rfl, by omega⟩
        split
        · exact key true
        · exact key _
    · rw [if_neg h92]
      exact ⟨a, 1, rfl, by simp⟩
theorem quoted_k (k : Nat) (c : UInt8) : text_quoted.f (k + 1) (c.toNat : Int) = some (mk (qb c)) :=
  at_rounds (fun k => text_quoted.mono _ k) (by omega) (quoted_is c)
theorem qall_cons (c : UInt8) (t : List UInt8) : qall (c :: t) = qb c ++ qall t := by simp [qall]
/-- the reader of what is between the marks -/
theorem unq_loop : ∀ (n : Nat) (l : List UInt8) (x6 : List Int) (k : Nat), l.length ≤ n → n + 2 ≤ k → x6.length + l.length < 140737488355328 →
    (∃ t, l = qall t ∧ text_Unquote.l0 k (mk l) x6 = some (strOfNums (x6 ++ num t), true)) ∨ ((∀ t, l ≠ qall t) ∧ text_Unquote.l0 k (mk l) x6 = some ((⟨#[]⟩ : ByteArray), false))
  | n, [], x6, k, _, hk, _ => by
    obtain ⟨k, rfl⟩ : ∃ m, k = m + 1 := ⟨k - 1, by omega⟩
    refine .inl ⟨[], rfl, ?_⟩
    simp only [text_Unquote.l0, toList_mk]
    simp [num]
  | 0, a :: l, x6, k, h, _, _ => by simp at h
  | n + 1, a :: l, x6, k, h, hk, hx => by
    obtain ⟨k, rfl⟩ : ∃ m, k = m + 1 := ⟨k - 1, by omega⟩
    have hne : (a :: l) ≠ [] := by simp
    generalize a :: l = L at *
    simp only [text_Unquote.l0, toList_mk]
    obtain ⟨k, rfl⟩ : ∃ m, k = m + 1 := ⟨k - 1, by omega⟩
    obtain ⟨c, m, hone, hm⟩ := one_any L hne k
    rw [if_neg hne, hone]
    simp only [Option.bind_some]
    have real : ∀ c' t', L = qall (c' :: t') → c' = c ∧ m = (qb c').length := by
      intro c' t' e
      have h1 := one_qb c' (qall t') k
      rw [← qall_cons, ← e, hone] at h1
      simp only [Option.some.injEq, Prod.mk.injEq, Int.natCast_inj] at h1
      exact ⟨(UInt8.toNat_inj.1 h1.1).symm, h1.2⟩
    have no : (∀ c' t', L ≠ qall (c' :: t')) → ∀ t, L ≠ qall t := by
      intro h' t
      cases t with
      | nil => exact hne
      | cons c' t' => exact h' c' t'
    by_cases hm0 : m = 0
    · subst hm0
      rw [if_pos (by rfl)]
      refine .inr ⟨no fun c' t' e => ?_, rfl⟩
      have := (real c' t' e).2
      exact qb_ne c' (List.length_eq_zero_iff.1 this.symm)
    · rw [if_neg (by omega), quoted_k]
      simp only [Option.bind_some]
      rw [if_pos (by omega), if_pos (by rw [size_mk]; omega)]
      simp only [Int.toNat_natCast, extract_to, toList_mk, extract_from]
      by_cases hq : qb c = L.take m
      · have hml : m = (qb c).length := by rw [hq, List.length_take]; omega
        have hL : L = qb c ++ L.drop m := by rw [hq, List.take_append_drop]
        rw [if_pos hq, if_pos (by omega)]
        have ih := unq_loop n (L.drop m) (x6 ++ [(c.toNat : Int)]) (k + 1) (by rw [List.length_drop]; omega) (by omega) (by rw [List.length_drop, List.length_append]; simp; omega)
        rcases ih with ⟨t, ht, hr⟩ | ⟨hn, hr⟩
        · refine .inl ⟨c :: t, by rw [qall_cons, ← ht]; exact hL, ?_⟩
          rw [hr]; simp [num]
        · refine .inr ⟨no fun c' t' e => ?_, hr⟩
          obtain ⟨rfl, _⟩ := real c' t' e
          apply hn t'
          rw [qall_cons] at e
          rw [e, hml, List.drop_left]
      · rw [if_neg hq]
        refine .inr ⟨no fun c' t' e => ?_, rfl⟩
        obtain ⟨rfl, hml⟩ := real c' t' e
        apply hq
        rw [e, qall_cons, hml, List.take_left]
def quote (t : List UInt8) : List UInt8 := 34 :: (qall t ++ [34])
theorem quote_inj {t u : List UInt8} (h : quote t = quote u) : t = u := by
  have h1 : qall t = qall u := List.append_cancel_right (List.cons.inj h).2
  clear h
  induction t generalizing u with
  | nil =>
    cases u with
    | nil => rfl
    | cons c u => rw [qall_cons] at h1; exact absurd (List.append_eq_nil_iff.1 h1.symm).1 (qb_ne c)
  | cons c t ih =>
    cases u with
    | nil => rw [qall_cons] at h1; exact absurd (List.append_eq_nil_iff.1 h1).1 (qb_ne c)
    | cons d u =>
      rw [qall_cons, qall_cons] at h1
      have a1 := one_qb c (qall t) 0
      have a2 := one_qb d (qall u) 0
      rw [h1, a2] at a1
      simp only [Option.some.injEq, Prod.mk.injEq, Int.natCast_inj] at a1
      obtain rfl : d = c := UInt8.toNat_inj.1 a1.1
      rw [ih (List.append_cancel_left h1)]
theorem cut_mk (s : List UInt8) : strings_CutPrefix.f (mk s) (⟨#[34]⟩ : ByteArray) = some (if s.head? = some 34 then (mk s.tail, true) else (mk s, false)) := by
  have e34 : (⟨#[34]⟩ : ByteArray) = mk [34] := rfl
  unfold strings_CutPrefix.f stringslite_CutPrefix.f stringslite_HasPrefix.f
  rw [e34]
  simp only [size_mk, List.length_cons, List.length_nil, toList_mk]
  cases s with
  | nil => simp
  | cons a l =>
    simp only [List.length_cons]
    rw [if_pos (by omega), if_pos (by omega), if_pos (by omega)]
    have e1 : (((0 + 1 : Nat) : Int)).toNat = 1 := rfl
    simp only [e1, extract_to, toList_mk, Option.bind_some, List.take_succ_cons, List.take_zero, List.head?_cons, List.tail_cons]
    by_cases h : a = 34
    · subst h
      simp only [beq_self_eq_true, if_true]
      rw [if_pos (by omega), if_pos (by omega)]
      have := extract_from (34 :: l) 1
      rw [size_mk] at this
      simp only [List.length_cons, List.drop_succ_cons, List.drop_zero] at this
      simp only [Option.bind_some]
      rw [this]
    · have : ([a] == [34]) = false := by simp [h]
      simp [this, h]
theorem suf_mk (s : List UInt8) (hs : s.length ≤ 140737488351232) : strings_HasSuffix.f (mk s) (⟨#[34]⟩ : ByteArray) = some (decide (s.getLast? = some 34)) := by
  have e34 : (⟨#[34]⟩ : ByteArray) = mk [34] := rfl
  unfold strings_HasSuffix.f stringslite_HasSuffix.f
  rw [e34]
  simp only [size_mk, List.length_cons, List.length_nil, toList_mk]
  rcases List.eq_nil_or_concat s with rfl | ⟨l, a, rfl⟩
  · simp
  · simp only [List.concat_eq_append, List.length_append, List.length_cons, List.length_nil] at hs ⊢
    have e1 : wrap64 (((l.length + (0 + 1) : Nat) : Int) - ((0 + 1 : Nat) : Int)) = (l.length : Int) := by unfold wrap64; omega
    rw [e1, if_pos (by omega), if_pos (by omega), if_pos (by omega)]
    have := extract_from (l ++ [a]) l.length
    rw [size_mk] at this
    simp only [List.length_append, List.length_cons, List.length_nil, List.drop_left] at this
    simp only [Int.toNat_natCast, Option.bind_some]
    rw [this, toList_mk]
    congr 1
    rw [Bool.eq_iff_iff]
    simp
/-- What the program reads: the text of which s is the quote, if there is one. -/
theorem unq (s : List UInt8) (hs : s.length ≤ 140737488351232) (k : Nat) (hk : s.length + 3 ≤ k) :
    (∃ t, s = quote t ∧ text_Unquote.f k (mk s) = some (mk t, true)) ∨ ((∀ t, s ≠ quote t) ∧ text_Unquote.f k (mk s) = some ((⟨#[]⟩ : ByteArray), false)) := by
  obtain ⟨k, rfl⟩ : ∃ m, k = m + 1 := ⟨k - 1, by omega⟩
  unfold text_Unquote.f
  rw [cut_mk]
  simp only [Option.bind_some]
  cases s with
  | nil =>
    refine .inr ⟨fun t => by simp [quote], ?_⟩
    simp [text_Unquote.j0]
  | cons a l =>
    by_cases ha : a = 34
    · subst ha
      simp only [List.head?_cons, List.tail_cons, if_true, List.length_cons] at hs hk ⊢
      rw [suf_mk l (by omega)]
      simp only [Option.bind_some]
      rcases List.eq_nil_or_concat l with rfl | ⟨m, b, rfl⟩
      · refine .inr ⟨fun t => by simp [quote], ?_⟩
        simp [text_Unquote.j0]
      · simp only [List.concat_eq_append] at hs hk ⊢
        by_cases hb : b = 34
        · subst hb
          simp only [List.length_append, List.length_cons, List.length_nil] at hs hk
          have e1 : wrap64 (((m ++ [34]).length : Int) - 1) = (m.length : Int) := by unfold wrap64; simp only [List.length_append, List.length_cons, List.length_nil]; omega
          simp only [text_Unquote.j0, List.getLast?_append, List.getLast?_singleton, Option.some_or, decide_true, Bool.not_true, size_mk, e1]
          rw [if_neg (by simp), if_pos (by omega), if_pos (by simp; omega)]
          simp only [Int.toNat_natCast, extract_to, List.take_left]
          rcases unq_loop m.length m [] k (Nat.le_refl _) (by omega) (by simp; omega) with ⟨t, ht, hr⟩ | ⟨hn, hr⟩
          · refine .inl ⟨t, by rw [quote, ← ht], ?_⟩
            rw [hr, List.nil_append, str_num]
          · refine .inr ⟨fun t e => hn t ?_, hr⟩
            exact List.append_cancel_right (List.cons.inj e).2
        · refine .inr ⟨fun t e => ?_, ?_⟩
          · have := (List.cons.inj e).2
            have h2 := congrArg List.getLast? this
            simp at h2
            exact hb h2
          · simp [text_Unquote.j0, hb]
    · refine .inr ⟨fun t e => ha (List.cons.inj e).1, ?_⟩
      simp [text_Unquote.j0, ha]

/-! The document's quotes. -/
theorem digit_fact : ∀ n : Fin 256, hallmarkref02_Digit.f ((Int.tdiv (n.val : Int) 16) % 256) = some ((hx (n.val / 16)).toNat : Int) ∧ hallmarkref02_Digit.f (Int.tmod (n.val : Int) 16) = some ((hx (n.val % 16)).toNat : Int) := by decide +kernel
theorem drop_at (l : List UInt8) (i : Nat) (h : i < l.length) : l.drop i = l[i] :: l.drop (i + 1) := List.drop_eq_getElem_cons h
theorem qb_len3 (c : UInt8) : (qb c).length ≤ 3 := qb_len c
theorem ref_quote_l (s : List UInt8) (hs : s.length ≤ 46912496117000) : ∀ (d i k : Nat) (p : List UInt8), d + i = s.length → 3 * d + 3 ≤ k → p.length ≤ 3 * i + 1 →
    hallmarkref02_Quote.l0 k (mk s) (num p) (i : Int) = some (mk (p ++ (qall (s.drop i) ++ [34])))
  | 0, i, k, p, hd, hk, hp => by
    obtain ⟨k, rfl⟩ : ∃ m, k = m + 1 := ⟨k - 1, by omega⟩
    simp only [hallmarkref02_Quote.l0, size_mk, num_len]
    rw [if_neg (by omega), if_pos (by omega), List.drop_of_length_le (by omega)]
    have : num p ++ [34] = num (p ++ [34]) := by rw [num_app]; rfl
    rw [this, str_num]; rfl
  | d + 1, i, k, p, hd, hk, hp => by
    obtain ⟨k, rfl⟩ : ∃ m, k = m + 1 := ⟨k - 1, by omega⟩
    have hi : i < s.length := by omega
    have ew : wrap64 ((i : Int) + 1) = ((i + 1 : Nat) : Int) := by unfold wrap64; omega
    have h3 := qb_len s[i]
    have ih := fun k hk => ref_quote_l s hs d (i + 1) k (p ++ qb s[i]) (by omega) hk (by rw [List.length_append]; omega)
    rw [drop_at s i hi, qall_cons]
    simp only [hallmarkref02_Quote.l0, size_mk, num_len]
    obtain ⟨k, rfl⟩ : ∃ m, k = m + 1 := ⟨k - 1, by omega⟩
    rw [if_pos (by omega), if_pos (by omega), bt_mk s i hi]
    generalize s[i] = c at *
    have hj1 : (if (c.toNat : Int) = 34 then hallmarkref02_Quote.j1 (k + 1) (mk s) (num p) i c.toNat true else hallmarkref02_Quote.j1 (k + 1) (mk s) (num p) i c.toNat ((c.toNat : Int) == 92)) = hallmarkref02_Quote.j1 (k + 1) (mk s) (num p) i c.toNat (decide (c = 34 ∨ c = 92)) := by
      by_cases h1 : c = 34
      · subst h1; rw [if_pos (by rfl)]; simp
      · rw [if_neg (fun h => h1 (UInt8.toNat_inj.1 (by simp; omega)))]
        by_cases h2 : c = 92
        · subst h2; simp
        · have : ((c.toNat : Int) == 92) = false := beq_eq_false_iff_ne.2 (fun h => h2 (UInt8.toNat_inj.1 (by simp; omega)))
          rw [this]; simp [h1, h2]
    rw [hj1]
    simp only [hallmarkref02_Quote.j1]
    obtain ⟨k, rfl⟩ : ∃ m, k = m + 1 := ⟨k - 1, by omega⟩
    by_cases h1 : c = 34 ∨ c = 92
    · have e : qb c = [92, c] := by unfold qb; rw [if_pos h1]
      rw [e] at ih h3 ⊢
      rw [if_pos (by simpa using h1)]
      simp only [Option.bind_some, List.length_cons, List.length_nil, num_len]
      rw [if_pos (by omega), ew]
      have : num p ++ [92, (c.toNat : Int)] = num (p ++ [92, c]) := by rw [num_app]; rfl
      rw [this, ih _ (by omega)]; simp
    · rw [if_neg (by simpa using h1)]
      have hj2 : (if (c.toNat : Int) < 32 then hallmarkref02_Quote.j2 (k + 1) (mk s) (num p) i c.toNat true else hallmarkref02_Quote.j2 (k + 1) (mk s) (num p) i c.toNat (decide ((c.toNat : Int) > 126))) = hallmarkref02_Quote.j2 (k + 1) (mk s) (num p) i c.toNat (decide (c < 32 ∨ 126 < c)) := by
        have a1 : c < 32 ↔ (c.toNat : Int) < 32 := by rw [UInt8.lt_iff_toNat_lt]; simp; omega
        have a2 : 126 < c ↔ (c.toNat : Int) > 126 := by rw [UInt8.lt_iff_toNat_lt]; simp; omega
        by_cases h2 : (c.toNat : Int) < 32
        · rw [if_pos h2]; simp [a1, h2]
        · rw [if_neg h2]; simp [a1, a2, h2]
      rw [hj2]
      simp only [hallmarkref02_Quote.j2]
      by_cases h2 : c < 32 ∨ 126 < c
      · have e : qb c = [92, hx (c.toNat / 16), hx (c.toNat % 16)] := by unfold qb; rw [if_neg h1, if_pos h2]
        have hdg := digit_fact ⟨c.toNat, c.toNat_lt⟩
        simp only at hdg
        rw [e] at ih h3 ⊢
        rw [if_pos (by simpa using h2), hdg.1]
        simp only [Option.bind_some]
        rw [hdg.2]
        simp only [Option.bind_some, List.length_cons, List.length_nil, num_len]
        rw [if_pos (by omega), ew]
        have : num p ++ [92, ((hx (c.toNat / 16)).toNat : Int), ((hx (c.toNat % 16)).toNat : Int)] = num (p ++ [92, hx (c.toNat / 16), hx (c.toNat % 16)]) := by rw [num_app]; rfl
        rw [this, ih _ (by omega)]; simp
      · have e : qb c = [c] := by unfold qb; rw [if_neg h1, if_neg h2]
        rw [e] at ih h3 ⊢
        rw [if_neg (by simpa using h2)]
        simp only [num_len]
        rw [if_pos (by omega), ew]
        have : num p ++ [(c.toNat : Int)] = num (p ++ [c]) := by rw [num_app]; rfl
        rw [this, ih _ (by omega)]; simp
theorem ref_quote (s : List UInt8) (hs : s.length ≤ 46912496117000) (k : Nat) (hk : 3 * s.length + 3 ≤ k) : hallmarkref02_Quote.f k (mk s) = some (mk (quote s)) := by
  unfold hallmarkref02_Quote.f
  have := ref_quote_l s hs s.length 0 k [34] (by omega) hk (by simp)
  simpa [quote, num] using this
theorem prog_quote (s : List UInt8) (hs : s.length ≤ 46912496117000) : text_Quote.f (mk s) = some (mk (quote s)) := by
  unfold text_Quote.f
  rw [if_pos (by rw [size_mk]; omega)]; rfl
theorem quote_len (s : List UInt8) : (quote s).length ≤ 3 * s.length + 2 := by
  have := qall_len s
  simp only [quote, List.length_cons, List.length_append, List.length_nil]; omega
end Go.Proofs.Ytfddhmndeknpkaa.QuoTextReads
