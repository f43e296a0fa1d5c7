/- Numbers, texts and lists that stand one behind the other are taken in order: for all numbers, texts and lists. -/
import Derived.Test.YtblahbenbknbmaaCalcWireJoins
namespace Go.Proofs.Ytblahbenbknbmaa.Pure
open Go.RowKit Go.Proofs.YtblahbenbknbmaaW.PrintWords Go.Proofs.YtblahbenbknbmaaW.PrintLast Go.Proofs.YtblahbenbknbmaaW.PrintMore Go.Proofs.Ytblahbenbknbmaa.PWireJoins Go.Proofs.Ytblahbenbknbmaa.BaseWireJoins Go.Proofs.Ytblahbenbknbmaa.NumWireJoins Go.Proofs.Ytblahbenbknbmaa.CalcWireJoins

theorem lc_append (l r : List Int) : (l ++ r).length = l.length + r.length := List.length_append
theorem nums_size (s : ByteArray) : (bytesOf s).length = s.size := bytesOf_length s
theorem nums_bytes (s : ByteArray) : ∀ x ∈ bytesOf s, 0 ≤ x ∧ x < 256 := by
  intro x hx
  unfold bytesOf at hx
  obtain ⟨b, _, rfl⟩ := List.mem_map.1 hx
  have := b.toNat_lt
  omega
theorem str_nums (s : ByteArray) : strOfNums (bytesOf s) = s := by
  have e : (bytesOf s).map (fun n => UInt8.ofNat n.toNat) = s.data.toList := by
    unfold bytesOf
    rw [List.map_map]
    have : ((fun n : Int => UInt8.ofNat n.toNat) ∘ fun b : UInt8 => (b.toNat : Int)) = id := by
      funext b
      simp
    rw [this, List.map_id]
  unfold strOfNums
  rw [e]
/-- how many there are -/
def countP (b : List Int) (most : Int) : Int × Nat × Int :=
  if (takeP b).2.2 = 0 then (if (takeP b).1 < 0 then (0, 0, 4) else if (takeP b).1 > most then (0, 0, 2) else takeP b) else (0, 0, (takeP b).2.2)
theorem count_is (k : Nat) (hk : 30 ≤ k) (b : List Int) (m : Int) (hb : ∀ x ∈ b, 0 ≤ x ∧ x < 256) : wire_count.f k b m = some (takeR b (countP b m)) := by
  unfold wire_count.f
  rw [take_is k hk b hb, Option.bind_some]
  unfold countP
  by_cases h : (takeP b).2.2 = 0
  · have e : (takeR b (takeP b)).2.2 = 0 := h
    have e1 : (takeR b (takeP b)).1 = (takeP b).1 := rfl
    rw [if_pos h, if_pos e, e1]
    by_cases h0 : (takeP b).1 < 0
    · rw [if_pos h0, if_pos h0]; rfl
    · rw [if_neg h0, if_neg h0]
      by_cases hm : (takeP b).1 > m
      · rw [if_pos hm, if_pos hm]; rfl
      · rw [if_neg hm, if_neg hm]
        unfold takeR
        rw [h]
  · have e : ¬ (takeR b (takeP b)).2.2 = 0 := h
    rw [if_neg h, if_neg e]
    show some (0, ([] : List Int), (takeP b).2.2) = some (0, (if (takeP b).2.2 = 0 then b.drop 0 else []), (takeP b).2.2)
    rw [if_neg h]
theorem count_told (b : List Int) (m : Int) (hb : ∀ x ∈ b, 0 ≤ x ∧ x < 256) (h : (countP b m).2.2 = 0) : 0 ≤ (countP b m).1 ∧ (countP b m).1 < 9223372036854775808 ∧ (countP b m).2.1 ≤ b.length ∧ (countP b m).1 ≤ m ∧ takeP b = countP b m := by
  unfold countP at h ⊢
  by_cases h1 : (takeP b).2.2 = 0
  · rw [if_pos h1] at h ⊢
    by_cases h0 : (takeP b).1 < 0
    · rw [if_pos h0] at h; cases h
    · rw [if_neg h0] at h ⊢
      by_cases hm : (takeP b).1 > m
      · rw [if_pos hm] at h; cases h
      · rw [if_neg hm]
        have := take_told b hb (takeP b).1 (takeP b).2.1 (by rw [← h1])
        exact ⟨by omega, this.2.2.2.2, this.2.2.1, by omega, rfl⟩
  · rw [if_neg h1] at h; exact absurd h h1
theorem count_enc (n m : Int) (r : List Int) (h0 : 0 ≤ n) (h1 : n < 9223372036854775808) (hm : n ≤ m) : countP (enc n ++ r) m = (n, (enc n).length, 0) := by
  unfold countP
  rw [take_enc n r (by omega) h1, if_pos rfl, if_neg (by omega), if_neg (by omega)]

/-- the bytes of numbers, one behind the other -/
def encs : List Int → List Int
  | [] => []
  | n :: r => enc n ++ encs r
theorem encs_le : ∀ l : List Int, (encs l).length ≤ 10 * l.length
  | [] => Nat.le_refl _
  | n :: r => by
    have h1 := enc_le n
    have h2 := encs_le r
    rw [encs, lc_append, List.length_cons]
    omega
theorem encs_long : ∀ l : List Int, l.length ≤ (encs l).length
  | [] => Nat.le_refl _
  | n :: r => by
    have h1 := enc_pos n
    have h2 := encs_long r
    rw [encs, lc_append, List.length_cons]
    omega
theorem encs_bytes : ∀ l : List Int, ∀ x ∈ encs l, 0 ≤ x ∧ x < 256
  | [], x, h => by cases h
  | n :: r, x, h => by
    rw [encs] at h
    rcases List.mem_append.1 h with h | h
    · exact enc_bytes n x h
    · exact encs_bytes r x h
theorem drop_at (l : List Int) (i : Nat) (h : i < l.length) : l.drop i = l[i] :: l.drop (i + 1) := List.drop_eq_getElem_cons h
theorem rd_at (l : List Int) (i : Nat) (h : i < l.length) : rd l (i : Int) = l[i] := by unfold rd; simp [h]
def InRange (l : List Int) : Prop := ∀ x ∈ l, -9223372036854775808 ≤ x ∧ x < 9223372036854775808
theorem putList_l (l : List Int) (hl : l.length ≤ 1048576) (hr : InRange l) : ∀ (d k i : Nat) (acc : List Int), d + i = l.length → d + 31 ≤ k → acc.length + 10 * d ≤ 134217728 →
    wire_PutList.l0 k acc l (l.length : Int) (i : Int) = some (acc ++ encs (l.drop i)) := by
  intro d
  induction d with
  | zero =>
    intro k i acc hd hk ha
    obtain ⟨k, rfl⟩ : ∃ m, k = m + 1 := ⟨k - 1, by omega⟩
    simp only [wire_PutList.l0]
    rw [if_neg (by omega), List.drop_of_length_le (by omega), encs, List.append_nil]
  | succ d ih =>
    intro k i acc hd hk ha
    obtain ⟨k, rfl⟩ : ∃ m, k = m + 1 := ⟨k - 1, by omega⟩
    have hi : i < l.length := by omega
    have h1 := hr _ (List.getElem_mem hi)
    have he := enc_le l[i]
    have ew : wrap64 ((i : Int) + 1) = ((i + 1 : Nat) : Int) := by rw [wrap_id (by omega) (by omega)]; rfl
    simp only [wire_PutList.l0]
    rw [if_pos (by omega), if_pos (by omega), if_pos (by omega), rd_at l i hi, put_is k (by omega) acc l[i] (by omega) h1.1 h1.2, Option.bind_some, ew,
      ih k (i + 1) _ (by omega) (by omega) (by rw [lc_append]; omega), drop_at l i hi, encs, List.append_assoc]
theorem putList_is (k : Nat) (l r : List Int) (hk : r.length + 40 ≤ k) (hl : l.length ≤ 2097152) (hr0 : r.length ≤ 1048576) (hr : InRange r) : wire_PutList.f k l r = some (l ++ enc (r.length : Int) ++ encs r) := by
  have he := enc_le (r.length : Int)
  unfold wire_PutList.f
  rw [clone_is l (by omega), Option.bind_some, put_is k (by omega) l _ (by omega) (by omega) (by omega), Option.bind_some]
  exact putList_l r hr0 hr r.length k 0 _ (by omega) (by omega) (by rw [lc_append]; omega)
/-- the numbers that bytes begin with, from place p on -/
def tkL (B : List Int) : Nat → Nat → List Int → Int → Nat → List Int × Nat × Int
  | 0, _, _, _, _ => ([], 0, 9)
  | d + 1, p, acc, n, i => if (i : Int) < n then (if (takeP (B.drop p)).2.2 = 0 then tkL B d (p + (takeP (B.drop p)).2.1) (acc ++ [(takeP (B.drop p)).1]) n (i + 1) else ([], 0, (takeP (B.drop p)).2.2)) else (acc, p, 0)
def listR (B : List Int) (t : List Int × Nat × Int) : List Int × List Int × Int := (t.1, (if t.2.2 = 0 then B.drop t.2.1 else []), t.2.2)
theorem drop_bytes (B : List Int) (hb : ∀ x ∈ B, 0 ≤ x ∧ x < 256) (p : Nat) : ∀ x ∈ B.drop p, 0 ≤ x ∧ x < 256 := fun x hx => hb x (List.mem_of_mem_drop hx)
theorem takeP_step (B : List Int) (hb : ∀ x ∈ B, 0 ≤ x ∧ x < 256) (p : Nat) (hp : p ≤ B.length) (h : (takeP (B.drop p)).2.2 = 0) : 1 ≤ (takeP (B.drop p)).2.1 ∧ p + (takeP (B.drop p)).2.1 ≤ B.length := by
  obtain ⟨_, t2, t3, _, _⟩ := take_told (B.drop p) (drop_bytes B hb p) (takeP (B.drop p)).1 (takeP (B.drop p)).2.1 (by rw [← h])
  have h1 := enc_pos (takeP (B.drop p)).1
  rw [List.length_drop] at t3
  omega
theorem takeP_nil : takeP [] = (0, 0, 3) := by decide
theorem takeList_l (B : List Int) (hb : ∀ x ∈ B, 0 ≤ x ∧ x < 256) (hB : B.length ≤ 134217728) (n : Int) : ∀ (d k p i : Nat) (acc : List Int), B.length < d + p → d + 31 ≤ k → p ≤ B.length → i ≤ p → acc.length = i →
    wire_TakeList.l0 k (B.drop p) acc n (i : Int) = some (listR B (tkL B d p acc n i)) := by
  intro d
  induction d with
  | zero => intro k p i acc h _ h2; omega
  | succ d ih =>
    intro k p i acc hd hk hp hi ha
    obtain ⟨k, rfl⟩ : ∃ m, k = m + 1 := ⟨k - 1, by omega⟩
    have g : acc.length < 17592186044416 := by omega
    rw [tkL, wire_TakeList.l0]
    by_cases hn : (i : Int) < n
    · rw [if_pos hn, if_pos hn, take_is k (by omega) _ (drop_bytes B hb p), Option.bind_some]
      by_cases h : (takeP (B.drop p)).2.2 = 0
      · obtain ⟨s1, s2⟩ := takeP_step B hb p hp h
        have hih := ih k (p + (takeP (B.drop p)).2.1) (i + 1) (acc ++ [(takeP (B.drop p)).1]) (by omega) (by omega) s2 (by omega) (by rw [lc_append, ha]; rfl)
        have e : (takeR (B.drop p) (takeP (B.drop p))).2.2 = 0 := h
        have e1 : (takeR (B.drop p) (takeP (B.drop p))).1 = (takeP (B.drop p)).1 := rfl
        have e2 : (takeR (B.drop p) (takeP (B.drop p))).2.1 = B.drop (p + (takeP (B.drop p)).2.1) := by
          have : (takeR (B.drop p) (takeP (B.drop p))).2.1 = (B.drop p).drop (takeP (B.drop p)).2.1 := if_pos h
          rw [this, List.drop_drop]
        have ew : wrap64 ((i : Int) + 1) = ((i + 1 : Nat) : Int) := by clear e e1 e2 hih; rw [wrap_id (by omega) (by omega)]; rfl
        rw [if_pos h, if_pos e, if_pos g, e1, e2, ew, hih]
      · have e : ¬ (takeR (B.drop p) (takeP (B.drop p))).2.2 = 0 := h
        rw [if_neg h, if_neg e]
        show some (([] : List Int), ([] : List Int), (takeP (B.drop p)).2.2) = some (([] : List Int), (if (takeP (B.drop p)).2.2 = 0 then B.drop 0 else []), (takeP (B.drop p)).2.2)
        rw [if_neg h]
    · rw [if_neg hn, if_neg hn]; rfl
def listP (B : List Int) (m : Int) : List Int × Nat × Int := if (countP B m).2.2 = 0 then tkL B (B.length + 1) (countP B m).2.1 [] (countP B m).1 0 else ([], 0, (countP B m).2.2)
theorem takeList_is (k : Nat) (B : List Int) (m : Int) (hk : B.length + 40 ≤ k) (hb : ∀ x ∈ B, 0 ≤ x ∧ x < 256) (hB : B.length ≤ 134217728) : wire_TakeList.f k B m = some (listR B (listP B m)) := by
  unfold wire_TakeList.f listP
  rw [count_is k (by omega) B m hb, Option.bind_some]
  by_cases h : (countP B m).2.2 = 0
  · obtain ⟨c0, c1, c2, c3, _⟩ := count_told B m hb h
    have e : (takeR B (countP B m)).2.2 = 0 := h
    have e1 : (takeR B (countP B m)).1 = (countP B m).1 := rfl
    have e2 : (takeR B (countP B m)).2.1 = B.drop (countP B m).2.1 := if_pos h
    rw [if_pos h, if_pos e, e1, e2]
    exact takeList_l B hb hB _ (B.length + 1) k _ 0 [] (by omega) (by omega) c2 (Nat.zero_le _) rfl
  · have e : ¬ (takeR B (countP B m)).2.2 = 0 := h
    rw [if_neg h, if_neg e]
    show some (([] : List Int), ([] : List Int), (countP B m).2.2) = some (([] : List Int), (if (countP B m).2.2 = 0 then B.drop 0 else []), (countP B m).2.2)
    rw [if_neg h]
/-- what is taken lies within the bytes -/
theorem tkL_cut (B : List Int) (hb : ∀ x ∈ B, 0 ≤ x ∧ x < 256) (n : Int) : ∀ (d p i : Nat) (acc : List Int), p ≤ B.length → (tkL B d p acc n i).2.2 = 0 → (tkL B d p acc n i).2.1 ≤ B.length := by
  intro d
  induction d with
  | zero => intro p i acc hp h; rw [tkL]; exact Nat.zero_le _
  | succ d ih =>
    intro p i acc hp h
    rw [tkL] at h ⊢
    by_cases hn : (i : Int) < n
    · rw [if_pos hn] at h ⊢
      by_cases h1 : (takeP (B.drop p)).2.2 = 0
      · rw [if_pos h1] at h ⊢
        exact ih _ _ _ (takeP_step B hb p hp h1).2 h
      · rw [if_neg h1]; exact Nat.zero_le _
    · rw [if_neg hn]; exact hp
theorem listP_cut (B : List Int) (m : Int) (hb : ∀ x ∈ B, 0 ≤ x ∧ x < 256) (h : (listP B m).2.2 = 0) : (listP B m).2.1 ≤ B.length := by
  unfold listP at h ⊢
  by_cases h1 : (countP B m).2.2 = 0
  · rw [if_pos h1] at h ⊢
    exact tkL_cut B hb _ _ _ _ _ (count_told B m hb h1).2.2.1 h
  · rw [if_neg h1]; exact Nat.zero_le _
/-- numbers that were written come back -/
theorem tkL_encs (B r : List Int) : ∀ (l : List Int) (d p i : Nat) (acc : List Int), InRange l → l.length < d → B.drop p = encs l ++ r → tkL B d p acc ((i + l.length : Nat) : Int) i = (acc ++ l, p + (encs l).length, 0)
  | [], d, p, i, acc, _, hd, _ => by
    obtain ⟨d, rfl⟩ : ∃ m, d = m + 1 := ⟨d - 1, by simp at hd; omega⟩
    rw [tkL, if_neg (by simp), List.append_nil, encs]; rfl
  | x :: l, d, p, i, acc, hl, hd, hB => by
    obtain ⟨d, rfl⟩ : ∃ m, d = m + 1 := ⟨d - 1, by simp at hd; omega⟩
    have hx := hl x List.mem_cons_self
    have ht : takeP (B.drop p) = (x, (enc x).length, 0) := by
      rw [hB, encs, List.append_assoc]
      exact take_enc x _ hx.1 hx.2
    have hB' : B.drop (p + (enc x).length) = encs l ++ r := by
      rw [← List.drop_drop, hB, encs, List.append_assoc]; simp
    have hih := tkL_encs B r l d (p + (enc x).length) (i + 1) (acc ++ [x]) (fun y hy => hl y (List.mem_cons_of_mem _ hy)) (by simp at hd; omega) hB'
    have en : (((i + 1) + l.length : Nat) : Int) = ((i + (x :: l).length : Nat) : Int) := by rw [List.length_cons]; omega
    rw [en] at hih
    rw [tkL, if_pos (by rw [List.length_cons]; omega), ht, if_pos rfl, hih, encs, lc_append]
    simp; omega
theorem same_l (l : List Int) (hl : l.length ≤ 9223372036854775000) : ∀ (d k i : Nat), d + i = l.length → d < k → hallmarklaw03_same.l0 k l l (i : Int) = some true := by
  intro d
  induction d with
  | zero =>
    intro k i hd hk
    obtain ⟨k, rfl⟩ : ∃ m, k = m + 1 := ⟨k - 1, by omega⟩
    simp only [hallmarklaw03_same.l0]
    rw [if_neg (by omega)]
  | succ d ih =>
    intro k i hd hk
    obtain ⟨k, rfl⟩ : ∃ m, k = m + 1 := ⟨k - 1, by omega⟩
    have ew : wrap64 ((i : Int) + 1) = ((i + 1 : Nat) : Int) := by rw [wrap_id (by omega) (by omega)]; rfl
    have hih := ih k (i + 1) (by clear ew; omega) (by clear ew; omega)
    simp only [hallmarklaw03_same.l0]
    rw [if_pos (by omega), if_pos (by omega), if_pos (by omega), if_pos trivial, ew, hih]
theorem same_is (k : Nat) (l : List Int) (hk : l.length < k) (hl : l.length ≤ 9223372036854775000) : hallmarklaw03_same.f k l l = some true := by
  unfold hallmarklaw03_same.f
  rw [if_pos rfl]
  exact same_l l hl l.length k 0 (by omega) hk
theorem tkL_len (B : List Int) (hb : ∀ x ∈ B, 0 ≤ x ∧ x < 256) (n : Int) : ∀ (d p i : Nat) (acc : List Int), p ≤ B.length → acc.length ≤ p → (tkL B d p acc n i).1.length ≤ B.length := by
  intro d
  induction d with
  | zero => intro p i acc hp ha; rw [tkL]; exact Nat.zero_le _
  | succ d ih =>
    intro p i acc hp ha
    rw [tkL]
    by_cases hn : (i : Int) < n
    · rw [if_pos hn]
      by_cases h1 : (takeP (B.drop p)).2.2 = 0
      · rw [if_pos h1]
        have := takeP_step B hb p hp h1
        exact ih _ _ _ this.2 (by rw [lc_append, List.length_singleton]; omega)
      · rw [if_neg h1]; exact Nat.zero_le _
    · rw [if_neg hn]; exact Nat.le_trans ha hp
theorem listP_len (B : List Int) (m : Int) (hb : ∀ x ∈ B, 0 ≤ x ∧ x < 256) : (listP B m).1.length ≤ B.length := by
  unfold listP
  by_cases h1 : (countP B m).2.2 = 0
  · rw [if_pos h1]
    exact tkL_len B hb _ _ _ _ _ (count_told B m hb h1).2.2.1 (Nat.zero_le _)
  · rw [if_neg h1]; exact Nat.zero_le _
theorem listP_enc (l r : List Int) (hl : l.length ≤ 1048576) (hr : InRange l) : listP (enc (l.length : Int) ++ encs l ++ r) (l.length : Int) = (l, (enc (l.length : Int)).length + (encs l).length, 0) := by
  unfold listP
  rw [List.append_assoc, count_enc _ _ _ (by omega) (by omega) (Int.le_refl _), if_pos rfl]
  have h := tkL_encs (enc (l.length : Int) ++ (encs l ++ r)) r l ((enc (l.length : Int) ++ (encs l ++ r)).length + 1) (enc (l.length : Int)).length 0 [] hr
    (by have := encs_long l; rw [lc_append, lc_append]; omega) (by simp)
  rw [Nat.zero_add] at h
  exact h

theorem putText_is (k : Nat) (hk : 10 ≤ k) (l : List Int) (s : ByteArray) (hl : l.length ≤ 2097152) (hs : s.size ≤ 1048576) : wire_PutText.f k l s = some (l ++ enc (s.size : Int) ++ bytesOf s) := by
  have he := enc_le (s.size : Int)
  have g : (l ++ enc (s.size : Int)).length + s.size < 140737488355328 := by rw [lc_append]; omega
  unfold wire_PutText.f
  rw [clone_is l (by omega), Option.bind_some, put_is k hk l _ (by omega) (by omega) (by omega), Option.bind_some, if_pos g]
/-- the text that bytes begin with -/
def textP (b : List Int) (m : Int) : ByteArray × Nat × Int :=
  if (countP b m).2.2 = 0 then (if (countP b m).1 > (b.length : Int) - ((countP b m).2.1 : Int) then (⟨#[]⟩, 0, 3)
    else (strOfNums ((b.drop (countP b m).2.1).take (countP b m).1.toNat), (countP b m).2.1 + (countP b m).1.toNat, 0)) else (⟨#[]⟩, 0, (countP b m).2.2)
theorem takeText_is (k : Nat) (hk : 30 ≤ k) (b : List Int) (m : Int) (hb : ∀ x ∈ b, 0 ≤ x ∧ x < 256) :
    wire_TakeText.f k b m = some ((textP b m).1, (if (textP b m).2.2 = 0 then b.drop (textP b m).2.1 else []), (textP b m).2.2) := by
  unfold wire_TakeText.f
  rw [count_is k hk b m hb, Option.bind_some]
  unfold textP
  by_cases h : (countP b m).2.2 = 0
  · obtain ⟨c0, c1, c2, c3, _⟩ := count_told b m hb h
    have e : (takeR b (countP b m)).2.2 = 0 := h
    have e1 : (takeR b (countP b m)).1 = (countP b m).1 := rfl
    have e2 : (takeR b (countP b m)).2.1 = b.drop (countP b m).2.1 := if_pos h
    have e3 : ((b.drop (countP b m).2.1).length : Int) = (b.length : Int) - ((countP b m).2.1 : Int) := by rw [List.length_drop]; omega
    rw [if_pos h, if_pos e, e1, e2, e3]
    by_cases hg : (countP b m).1 > (b.length : Int) - ((countP b m).2.1 : Int)
    · rw [if_pos hg, if_pos hg]; rfl
    · rw [if_neg hg, if_neg hg, if_pos c0, if_pos (by omega), if_pos rfl, List.drop_drop]
  · have e : ¬ (takeR b (countP b m)).2.2 = 0 := h
    rw [if_neg h, if_neg e, if_neg h]; rfl
theorem textP_enc (s : ByteArray) (b : List Int) (hs : s.size ≤ 1048576) : textP (enc (s.size : Int) ++ (bytesOf s ++ b)) (s.size : Int) = (s, (enc (s.size : Int)).length + s.size, 0) := by
  have hn := nums_size s
  have hc : countP (enc (s.size : Int) ++ (bytesOf s ++ b)) (s.size : Int) = ((s.size : Int), (enc (s.size : Int)).length, 0) := count_enc _ _ _ (by omega) (by omega) (Int.le_refl _)
  have hd : (enc (s.size : Int) ++ (bytesOf s ++ b)).drop (enc (s.size : Int)).length = bytesOf s ++ b := by simp
  unfold textP
  rw [hc, if_pos rfl, if_neg (by rw [lc_append, lc_append]; simp; omega), hd, Int.toNat_natCast]
  have : (bytesOf s ++ b).take s.size = bytesOf s := by rw [← hn]; simp
  rw [this, str_nums]
theorem main (k : Nat) (hk : 16777216 ≤ k) (n : Int) (s : ByteArray) (l : List Int) (h0 : -9223372036854775808 ≤ n) (h1 : n < 9223372036854775808) (hs : s.size ≤ 1048576) (hl : l.length ≤ 65536) (hr : InRange l) :
    hallmarklaw03_WireJoins.j0 (k + 1) n s l false = some true := by
  have he := enc_le n
  have he1 := enc_le (s.size : Int)
  have he2 := enc_le (l.length : Int)
  have hn := nums_size s
  have hes := encs_le l
  have b2 : ∀ x ∈ enc (l.length : Int) ++ encs l, 0 ≤ x ∧ x < 256 := by
    intro x hx
    rcases List.mem_append.1 hx with h | h
    · exact enc_bytes _ x h
    · exact encs_bytes l x h
  have b1 : ∀ x ∈ enc (s.size : Int) ++ (bytesOf s ++ (enc (l.length : Int) ++ encs l)), 0 ≤ x ∧ x < 256 := by
    intro x hx
    rcases List.mem_append.1 hx with h | h
    · exact enc_bytes _ x h
    · rcases List.mem_append.1 h with h | h
      · exact nums_bytes s x h
      · exact b2 x h
  have b0 : ∀ x ∈ enc n ++ (enc (s.size : Int) ++ (bytesOf s ++ (enc (l.length : Int) ++ encs l))), 0 ≤ x ∧ x < 256 := by
    intro x hx
    rcases List.mem_append.1 hx with h | h
    · exact enc_bytes _ x h
    · exact b1 x h
  have ht : takeR (enc n ++ (enc (s.size : Int) ++ (bytesOf s ++ (enc (l.length : Int) ++ encs l)))) (takeP (enc n ++ (enc (s.size : Int) ++ (bytesOf s ++ (enc (l.length : Int) ++ encs l)))))
      = (n, enc (s.size : Int) ++ (bytesOf s ++ (enc (l.length : Int) ++ encs l)), 0) := by
    rw [take_enc n _ h0 h1]
    unfold takeR
    rw [if_pos rfl]; simp
  have hd2 : (enc (s.size : Int) ++ (bytesOf s ++ (enc (l.length : Int) ++ encs l))).drop ((enc (s.size : Int)).length + s.size) = enc (l.length : Int) ++ encs l := by
    rw [← List.drop_drop, ← hn]; simp
  have hlist : listR (enc (l.length : Int) ++ encs l) (listP (enc (l.length : Int) ++ encs l) (l.length : Int)) = (l, [], 0) := by
    have h := listP_enc l [] (by omega) hr
    rw [List.append_nil] at h
    rw [h]
    unfold listR
    rw [if_pos rfl, ← List.drop_drop]; simp
  have g0 : ([] : List Int).length + l.length < 17592186044416 := by simp; omega
  have hput : wire_Put.f k [] n = some (enc n) := by
    unfold wire_Put.f
    rw [clone_is [] (by simp), Option.bind_some, put_is k (by omega) [] n (by simp) h0 h1, Option.bind_some, List.nil_append]
  have hpl : wire_PutList.f k (enc n ++ enc (s.size : Int) ++ bytesOf s) l = some (enc n ++ (enc (s.size : Int) ++ (bytesOf s ++ (enc (l.length : Int) ++ encs l)))) := by
    rw [putList_is k _ l (by omega) (by rw [lc_append, lc_append]; omega) (by omega) hr]
    simp only [List.append_assoc]
  have htk : wire_Take.f k (enc n ++ (enc (s.size : Int) ++ (bytesOf s ++ (enc (l.length : Int) ++ encs l)))) = some (n, enc (s.size : Int) ++ (bytesOf s ++ (enc (l.length : Int) ++ encs l)), 0) := by
    unfold wire_Take.f
    rw [take_is k (by omega) _ b0, Option.bind_some, ht]
  have htt : wire_TakeText.f k (enc (s.size : Int) ++ (bytesOf s ++ (enc (l.length : Int) ++ encs l))) (s.size : Int) = some (s, enc (l.length : Int) ++ encs l, 0) := by
    rw [takeText_is k (by omega) _ _ b1, textP_enc s _ hs]
    show some (s, (if (0 : Int) = 0 then (enc (s.size : Int) ++ (bytesOf s ++ (enc (l.length : Int) ++ encs l))).drop ((enc (s.size : Int)).length + s.size) else []), (0 : Int)) = _
    rw [if_pos rfl, hd2]
  have htl : wire_TakeList.f k (enc (l.length : Int) ++ encs l) (l.length : Int) = some (l, [], 0) := by
    rw [takeList_is k _ _ (by rw [lc_append]; omega) b2 (by rw [lc_append]; omega), hlist]
  rw [hallmarklaw03_WireJoins.j0, if_neg (by decide), hput, Option.bind_some, putText_is k (by omega) (enc n) s (by omega) hs, Option.bind_some, Option.bind_some, if_pos g0, List.nil_append, hpl, Option.bind_some, htk, Option.bind_some, htt, Option.bind_some, htl, Option.bind_some]
  show (if n = n then (if s.toList = s.toList then ((hallmarklaw03_same.f k l l).bind fun t223 => (if t223 = true then (if (((([] : List Int)).length : Nat) : Int) = 0 then (if (0 : Int) = 0 then (if (0 : Int) = 0 then (if (0 : Int) = 0 then ((hallmarklaw03_lives.f k).bind fun t224 => (some t224)) else (some false)) else (some false)) else (some false)) else (some false)) else (some false))) else (some false)) else (some false)) = some true
  rw [if_pos rfl, if_pos rfl, same_is k l (by omega) (by omega), Option.bind_some, if_pos rfl, if_pos (show (((([] : List Int)).length : Nat) : Int) = 0 from rfl), if_pos rfl, if_pos rfl, if_pos rfl, lives_is k (by omega), Option.bind_some]
theorem WireJoins : hallmarklaw03_WireJoins.Pure := by
  intro n s l hn hs _ _ hr
  have ⟨h0, h1⟩ := range hn
  refine ⟨16777216 + 1, ?_⟩
  have hlv : hallmarklaw03_WireJoins.j0 (16777216 + 1) n s l true = some true := by
    rw [hallmarklaw03_WireJoins.j0, if_pos rfl, lives_is _ (by omega), Option.bind_some]
  unfold hallmarklaw03_WireJoins.f
  by_cases c : (s.size : Int) > 1048576
  · rw [if_pos c]; exact hlv
  · rw [if_neg c]
    by_cases c2 : (l.length : Int) > 65536
    · rw [decide_eq_true c2]; exact hlv
    · rw [decide_eq_false c2]
      exact main 16777216 (Nat.le_refl _) n s l h0 h1 (by omega) (by omega) (fun x hx => range (hr x hx))
end Go.Proofs.Ytblahbenbknbmaa.Pure
