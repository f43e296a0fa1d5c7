/- Which block is over which, found round by round: plain. -/
set_option linter.unusedVariables false
namespace Go.Proofs.Ytemclhndmcjmmaa.DomTree
/-- blocks that are met (R), their places (pl), which follows which (Ed) -/
structure Gr (R : Nat → Prop) (pl : Nat → Nat) (Ed : Nat → Nat → Prop) : Prop where
  inj : ∀ a b, R a → R b → pl a = pl b → a = b
  r0 : R 0
  pl0 : pl 0 = 0
  ed : ∀ a b, Ed a b → R a ∧ R b
  par : ∀ b, R b → b ≠ 0 → ∃ p, Ed p b ∧ pl p < pl b
/-- a way of which all but the first one are in S -/
inductive Path (Ed : Nat → Nat → Prop) (S : Nat → Prop) : Nat → Nat → Prop
  | refl {a : Nat} : Path Ed S a a
  | snoc {a c b : Nat} (h : Path Ed S a c) (e : Ed c b) (s : S b) : Path Ed S a b
/-- a way from the first block on, past d, of at most k steps -/
inductive AvL (Ed : Nat → Nat → Prop) (d : Nat) : Nat → Nat → Prop
  | zero (k : Nat) (h : d ≠ 0) : AvL Ed d k 0
  | snoc {k c b : Nat} (h : AvL Ed d k c) (e : Ed c b) (s : b ≠ d) : AvL Ed d (k + 1) b
/-- a way from the first block on, past d -/
def Av (Ed : Nat → Nat → Prop) (d b : Nat) : Prop := d ≠ 0 ∧ Path Ed (fun x => x ≠ d) 0 b
/-- d is b, or over it on the way up -/
inductive Anc (up : Nat → Option Nat) (d : Nat) : Nat → Prop
  | refl : Anc up d d
  | step {b u : Nat} (h : up b = some u) (h0 : b ≠ 0) (t : Anc up d u) : Anc up d b

section
variable {R : Nat → Prop} {pl : Nat → Nat} {Ed : Nat → Nat → Prop}
theorem Path.trans {S : Nat → Prop} {a b c : Nat} (h : Path Ed S a b) (k : Path Ed S b c) : Path Ed S a c := by
  induction k with
  | refl => exact h
  | snoc _ e s ih => exact .snoc ih e s
theorem Path.mono {S S' : Nat → Prop} {a b : Nat} (hs : ∀ x, S x → S' x) (h : Path Ed S a b) : Path Ed S' a b := by
  induction h with
  | refl => exact .refl
  | snoc _ e s ih => exact .snoc ih e (hs _ s)
theorem AvL.d0 {d k b : Nat} (h : AvL Ed d k b) : d ≠ 0 := by
  induction h with
  | zero k h => exact h
  | snoc _ _ _ ih => exact ih
theorem AvL.ne {d k b : Nat} (h : AvL Ed d k b) : b ≠ d := by
  cases h with
  | zero k h => exact fun e => h e.symm
  | snoc _ _ s => exact s
theorem AvL.mono {d k b : Nat} (h : AvL Ed d k b) : ∀ {j : Nat}, k ≤ j → AvL Ed d j b := by
  induction h with
  | zero k h => intro j hj; exact .zero j h
  | snoc _ e s ih =>
    intro j hj
    obtain ⟨i, rfl⟩ : ∃ i, j = i + 1 := ⟨j - 1, by omega⟩
    exact .snoc (ih (by omega)) e s
theorem AvL.av {d k b : Nat} (h : AvL Ed d k b) : Av Ed d b := by
  refine ⟨h.d0, ?_⟩
  induction h with
  | zero k h => exact .refl
  | snoc _ e s ih => exact .snoc ih e s
theorem Av.len {d b : Nat} (h : Av Ed d b) : ∃ k, AvL Ed d k b := by
  obtain ⟨h0, h⟩ := h
  induction h with
  | refl => exact ⟨0, .zero 0 h0⟩
  | snoc _ e s ih => obtain ⟨k, hk⟩ := ih; exact ⟨k + 1, .snoc hk e s⟩
theorem Av.ne {d b : Nat} (h : Av Ed d b) : b ≠ d := let ⟨_, hk⟩ := h.len; hk.ne
/-- a way past d is past q, or comes to q -/
theorem AvL.split {d q : Nat} {k c : Nat} (h : AvL Ed d k c) : AvL Ed q k c ∨ AvL Ed d k q := by
  induction h with
  | zero k h =>
    by_cases hq : q = 0
    · subst hq; exact .inr (.zero k h)
    · exact .inl (.zero k hq)
  | snoc hc e s ih =>
    rename_i k c b
    rcases ih with ih | ih
    · by_cases hb : b = q
      · subst hb; exact .inr (.snoc hc e s)
      · exact .inl (.snoc ih e hb)
    · exact .inr (ih.mono (by omega))
theorem AvL.r {d k b : Nat} (g : Gr R pl Ed) (h : AvL Ed d k b) : R b := by
  cases h with
  | zero k h => exact g.r0
  | snoc _ e s => exact (g.ed _ _ e).2
/-- one bound for all -/
theorem bound_le (P : Nat → Nat → Prop) (mono : ∀ x j k, j ≤ k → P x j → P x k) : ∀ n, ∃ K, ∀ x, x < n → (∃ k, P x k) → P x K := by
  intro n
  induction n with
  | zero => exact ⟨0, fun x hx => by omega⟩
  | succ n ih =>
    obtain ⟨K, hK⟩ := ih
    by_cases h : ∃ k, P n k
    · obtain ⟨k, hk⟩ := h
      refine ⟨K + k, fun x hx he => ?_⟩
      by_cases e : x = n
      · subst e; exact mono _ _ _ (by omega) hk
      · exact mono _ _ _ (by omega) (hK x (by omega) he)
    · refine ⟨K, fun x hx he => ?_⟩
      by_cases e : x = n
      · subst e; exact absurd he h
      · exact hK x (by omega) he
theorem bound_av (N : Nat) : ∃ K, ∀ d b, d < N → b < N → Av Ed d b → AvL Ed d K b := by
  obtain ⟨K, hK⟩ := bound_le (fun d k => ∀ b, b < N → Av Ed d b → AvL Ed d k b) (fun x j k hjk h b hb ha => (h b hb ha).mono hjk) N
  refine ⟨K, fun d b hd hb ha => hK d hd ?_ b hb ha⟩
  obtain ⟨k, hk⟩ := bound_le (fun b k => Av Ed d b → AvL Ed d k b) (fun x j k hjk h ha => (h ha).mono hjk) N
  refine ⟨k, fun b hb ha => hk b hb ?_ ha⟩
  obtain ⟨q, hq⟩ := ha.len
  exact ⟨q, fun _ => hq⟩

/-- what holds of the ways up at any time -/
structure Inv (R : Nat → Prop) (pl : Nat → Nat) (Ed : Nat → Nat → Prop) (up : Nat → Option Nat) : Prop where
  z : up 0 = some 0
  r : ∀ b u, up b = some u → R b ∧ R u
  on : ∀ b u, b ≠ 0 → up b = some u → ∃ v, up u = some v
  lt : ∀ b u, b ≠ 0 → up b = some u → pl u < pl b
  way : ∀ b u, b ≠ 0 → up b = some u → Path Ed (fun v => pl u < pl v) u b
  past : ∀ b u d, b ≠ 0 → up b = some u → R d → pl u < pl d → d ≠ b → Av Ed d b

variable {up : Nat → Option Nat}
theorem Anc.trans {a b c : Nat} (h : Anc up a b) (k : Anc up b c) : Anc up a c := by
  induction k with
  | refl => exact h
  | step hu h0 _ ih => exact .step hu h0 ih
theorem Anc.le (i : Inv R pl Ed up) {d b : Nat} (h : Anc up d b) : pl d ≤ pl b := by
  induction h with
  | refl => exact Nat.le_refl _
  | step hu h0 _ ih => have := i.lt _ _ h0 hu; omega
theorem Anc.up_of_ne {d b u : Nat} (h : Anc up d b) (hne : d ≠ b) (hu : up b = some u) : Anc up d u := by
  cases h with
  | refl => exact absurd rfl hne
  | step hu' h0 t =>
    obtain rfl := Option.some.inj (hu.symm.trans hu')
    exact t
theorem Anc.zero {d : Nat} (h : Anc up d 0) : d = 0 := by
  cases h with
  | refl => rfl
  | step _ h0 _ => exact absurd rfl h0
theorem Anc.on (i : Inv R pl Ed up) {d b : Nat} (h : Anc up d b) (hb : ∃ v, up b = some v) : ∃ v, up d = some v := by
  induction h with
  | refl => exact hb
  | step hu h0 _ ih => exact ih (i.on _ _ h0 hu)
/-- what is above on the way up has a way down, past all that is above it -/
theorem Anc.way (i : Inv R pl Ed up) {d b : Nat} (h : Anc up d b) : Path Ed (fun v => pl d < pl v) d b := by
  induction h with
  | refl => exact .refl
  | step hu h0 t ih =>
    have hl := t.le i
    exact ih.trans ((i.way _ _ h0 hu).mono (fun x hx => Nat.lt_of_le_of_lt hl hx))
/-- the first block is over all that have a way up -/
theorem anc_zero (i : Inv R pl Ed up) : ∀ (n b : Nat), pl b ≤ n → (∃ v, up b = some v) → Anc up 0 b := by
  intro n
  induction n with
  | zero =>
    intro b hb hv
    obtain ⟨v, hv⟩ := hv
    by_cases h0 : b = 0
    · subst h0; exact .refl
    · have := i.lt b v h0 hv; omega
  | succ n ih =>
    intro b hb hv
    obtain ⟨v, hv⟩ := hv
    by_cases h0 : b = 0
    · subst h0; exact .refl
    · have := i.lt b v h0 hv
      exact .step hv h0 (ih v (by omega) (i.on b v h0 hv))
/-- what all ways pass is above on the way up -/
theorem dom_anc (i : Inv R pl Ed up) : ∀ (n b d : Nat), pl b ≤ n → (∃ v, up b = some v) → R d → ¬ Av Ed d b → Anc up d b := by
  intro n
  induction n with
  | zero =>
    intro b d hb hv hd ha
    obtain ⟨v, hv⟩ := hv
    by_cases h0 : b = 0
    · subst h0
      by_cases e : d = 0
      · subst e; exact .refl
      · exact absurd ⟨e, .refl⟩ ha
    · have := i.lt b v h0 hv; omega
  | succ n ih =>
    intro b d hb hv hd ha
    obtain ⟨v, hv⟩ := hv
    by_cases h0 : b = 0
    · subst h0
      by_cases e : d = 0
      · subst e; exact .refl
      · exact absurd ⟨e, .refl⟩ ha
    · by_cases e : d = b
      · subst e; exact .refl
      · have hl := i.lt b v h0 hv
        have hle : pl d ≤ pl v := by
          rcases Nat.lt_or_ge (pl v) (pl d) with h | h
          · exact absurd (i.past b v d h0 hv hd h e) ha
          · exact h
        refine .step hv h0 (ih v d (by omega) (i.on b v h0 hv) hd fun hav => ha ⟨hav.1, hav.2.trans ((i.way b v h0 hv).mono fun x hx => ?_)⟩)
        rintro rfl
        omega
/-- where two ways up meet -/
def meet (pl : Nat → Nat) (up : Nat → Option Nat) : Nat → Nat → Nat → Option Nat
  | 0, _, _ => none
  | k + 1, a, b => if a = b then some a else if pl b < pl a then (up a).bind (fun u => meet pl up k u b) else (up b).bind (fun u => meet pl up k a u)
theorem meet_is (g : Gr R pl Ed) (i : Inv R pl Ed up) : ∀ (k a b : Nat), pl a + pl b < k → (∃ v, up a = some v) → (∃ v, up b = some v) →
    ∃ c, meet pl up k a b = some c ∧ Anc up c a ∧ Anc up c b ∧ ∀ d, Anc up d a → Anc up d b → Anc up d c := by
  intro k
  induction k with
  | zero => intro a b h; omega
  | succ k ih =>
    intro a b h ha hb
    by_cases e : a = b
    · subst e
      exact ⟨a, by rw [meet, if_pos rfl], .refl, .refl, fun d hd _ => hd⟩
    · obtain ⟨ua, hua⟩ := ha
      obtain ⟨ub, hub⟩ := hb
      rw [meet, if_neg e]
      by_cases hl : pl b < pl a
      · have h0 : a ≠ 0 := by rintro rfl; rw [g.pl0] at hl; omega
        have := i.lt a ua h0 hua
        obtain ⟨c, h1, h2, h3, h4⟩ := ih ua b (by omega) (i.on a ua h0 hua) ⟨ub, hub⟩
        refine ⟨c, by rw [if_pos hl, hua, Option.bind_some, h1], .step hua h0 h2, h3, fun d hda hdb => h4 d (hda.up_of_ne (fun e2 => ?_) hua) hdb⟩
        subst e2
        have := hdb.le i
        omega
      · have hne : pl a ≠ pl b := fun e2 => e (g.inj a b (i.r a ua hua).1 (i.r b ub hub).1 e2)
        have h0 : b ≠ 0 := by rintro rfl; rw [g.pl0] at hl hne; omega
        have := i.lt b ub h0 hub
        obtain ⟨c, h1, h2, h3, h4⟩ := ih a ub (by omega) ⟨ua, hua⟩ (i.on b ub h0 hub)
        refine ⟨c, by rw [if_neg hl, hub, Option.bind_some, h1], h2, .step hub h0 h3, fun d hda hdb => h4 d hda (hdb.up_of_ne (fun e2 => ?_) hub)⟩
        subst e2
        have := hda.le i
        omega
/-- the block that is over all of some that have a way up -/
structure Common (up : Nat → Option Nat) (l : List Nat) (r : Option Nat) : Prop where
  non : r = Option.none → ∀ p ∈ l, up p = Option.none
  on : ∀ c, r = some c → ∃ v, up c = some v
  anc : ∀ c p, r = some c → p ∈ l → (∃ v, up p = some v) → Anc up c p
  most : ∀ c d, r = some c → (∀ p ∈ l, (∃ v, up p = some v) → Anc up d p) → Anc up d c
theorem Common.nil : Common up [] Option.none := ⟨fun _ p hp => (by simp at hp), fun c h => (by cases h), fun c p h => (by cases h), fun c d h => (by cases h)⟩
theorem Common.skip {l : List Nat} {r : Option Nat} {p : Nat} (h : Common up l r) (hp : up p = Option.none) : Common up (l ++ [p]) r := by
  refine ⟨fun hr q hq => ?_, h.on, fun c q hc hq hv => ?_, fun c d hc hd => h.most c d hc (fun q hq hv => hd q (List.mem_append_left _ hq) hv)⟩
  · rcases List.mem_append.1 hq with hq | hq
    · exact h.non hr q hq
    · rw [List.mem_singleton.1 hq]; exact hp
  · rcases List.mem_append.1 hq with hq | hq
    · exact h.anc c q hc hq hv
    · rw [List.mem_singleton.1 hq, hp] at hv; obtain ⟨v, hv⟩ := hv; cases hv
theorem Common.first {l : List Nat} {p : Nat} (h : Common up l Option.none) (hp : ∃ v, up p = some v) : Common up (l ++ [p]) (some p) := by
  have hn := h.non rfl
  refine ⟨fun hr => (by cases hr), fun c hc => (by obtain rfl := Option.some.inj hc; exact hp), fun c q hc hq hv => ?_, fun c d hc hd => ?_⟩
  · obtain rfl := Option.some.inj hc
    rcases List.mem_append.1 hq with hq | hq
    · rw [hn q hq] at hv; obtain ⟨v, hv⟩ := hv; cases hv
    · rw [List.mem_singleton.1 hq]; exact .refl
  · obtain rfl := Option.some.inj hc
    exact hd p (by simp) hp
theorem Common.next {l : List Nat} {a p c : Nat} (i : Inv R pl Ed up) (h : Common up l (some a)) (hp : ∃ v, up p = some v) (h2 : Anc up c a) (h3 : Anc up c p) (h4 : ∀ d, Anc up d a → Anc up d p → Anc up d c) : Common up (l ++ [p]) (some c) := by
  refine ⟨fun hr => (by cases hr), fun c' hc => (by obtain rfl := Option.some.inj hc; exact h3.on i hp), fun c' q hc hq hv => ?_, fun c' d hc hd => ?_⟩
  · obtain rfl := Option.some.inj hc
    rcases List.mem_append.1 hq with hq | hq
    · exact h2.trans (h.anc a q rfl hq hv)
    · rw [List.mem_singleton.1 hq]; exact h3
  · obtain rfl := Option.some.inj hc
    exact h4 d (h.most a d rfl (fun q hq hv => hd q (List.mem_append_left _ hq) hv)) (hd p (by simp) hp)
/-- the way up of a block is made anew -/
def upd (up : Nat → Option Nat) (b v : Nat) : Nat → Option Nat := fun x => if x = b then some v else up x
theorem upd_self (b v : Nat) : upd up b v b = some v := by simp [upd]
theorem upd_ne {b v x : Nat} (h : x ≠ b) : upd up b v x = up x := by simp [upd, h]
/-- a way up from a place below the block's is as it was -/
theorem Anc.upd_low (i : Inv R pl Ed up) {b v d x : Nat} (hx : pl x < pl b) : Anc (upd up b v) d x ↔ Anc up d x := by
  constructor
  · intro h
    induction h with
    | refl => exact .refl
    | step hu h0 t ih =>
      rename_i y u
      have hne : y ≠ b := by rintro rfl; omega
      rw [upd_ne hne] at hu
      have := i.lt _ _ h0 hu
      exact .step hu h0 (ih (by omega))
  · intro h
    induction h with
    | refl => exact .refl
    | step hu h0 t ih =>
      rename_i y u
      have hne : y ≠ b := by rintro rfl; omega
      have := i.lt _ _ h0 hu
      exact .step ((upd_ne hne).trans hu) h0 (ih (by omega))
/-- the new way up keeps what holds at any time -/
theorem Inv.upd (i : Inv R pl Ed up) {b c : Nat} {l : List Nat} (hb : R b) (hb0 : b ≠ 0) (hl : ∀ p, p ∈ l ↔ Ed p b) (h : Common up l (some c)) (hpar : ∃ p ∈ l, (∃ v, up p = some v) ∧ pl p < pl b) : Inv R pl Ed (upd up b c) := by
  obtain ⟨p, hpl, hpv, hpb⟩ := hpar
  have hcp := h.anc c p rfl hpl hpv
  have hlt : pl c < pl b := Nat.lt_of_le_of_lt (hcp.le i) hpb
  have hcv := h.on c rfl
  have hcR : R c := by obtain ⟨v, hv⟩ := hcv; exact (i.r c v hv).1
  have hcb : c ≠ b := by rintro rfl; omega
  have onx : ∀ u, (∃ v, up u = some v) → ∃ v, Go.Proofs.Ytemclhndmcjmmaa.DomTree.upd up b c u = some v := fun u hu => by
    by_cases e : u = b
    · subst e; exact ⟨c, upd_self _ _⟩
    · rw [upd_ne e]; exact hu
  refine ⟨(upd_ne (fun e => hb0 e.symm)).trans i.z, fun x u hx => ?_, fun x u h0 hx => ?_, fun x u h0 hx => ?_, fun x u h0 hx => ?_, fun x u d h0 hx hd hpd hdx => ?_⟩
  · by_cases e : x = b
    · subst e; rw [upd_self] at hx; obtain rfl := Option.some.inj hx; exact ⟨hb, hcR⟩
    · rw [upd_ne e] at hx; exact i.r x u hx
  · by_cases e : x = b
    · subst e; rw [upd_self] at hx; obtain rfl := Option.some.inj hx; exact onx _ hcv
    · rw [upd_ne e] at hx; exact onx _ (i.on x u h0 hx)
  · by_cases e : x = b
    · subst e; rw [upd_self] at hx; obtain rfl := Option.some.inj hx; exact hlt
    · rw [upd_ne e] at hx; exact i.lt x u h0 hx
  · by_cases e : x = b
    · subst e; rw [upd_self] at hx; obtain rfl := Option.some.inj hx
      exact .snoc (hcp.way i) ((hl p).1 hpl) hlt
    · rw [upd_ne e] at hx; exact i.way x u h0 hx
  · by_cases e : x = b
    · subst e; rw [upd_self] at hx; obtain rfl := Option.some.inj hx
      rcases Classical.em (∀ q ∈ l, (∃ v, up q = some v) → ¬ Av Ed d q) with hall | hne
      · have := (h.most c d rfl (fun q hq hv => dom_anc i _ q d (Nat.le_refl _) hv hd (hall q hq hv))).le i
        omega
      · obtain ⟨q, hq⟩ := Classical.not_forall.1 hne
        obtain ⟨hql, hq⟩ := Classical.not_imp.1 hq
        obtain ⟨hqv, hq⟩ := Classical.not_imp.1 hq
        have hav := Classical.not_not.1 hq
        exact ⟨hav.1, .snoc hav.2 ((hl q).1 hql) (fun e => hdx e.symm)⟩
    · rw [upd_ne e] at hx; exact i.past x u d h0 hx hd hpd hdx
/-- what is above a block lies on each way of at most k steps to it -/
def Good (Ed : Nat → Nat → Prop) (up : Nat → Option Nat) (k x : Nat) : Prop := ∀ d, AvL Ed d k x → ¬ Anc up d x
/-- a round of all blocks, n of which were done: up0 was, up is -/
structure Mid (R : Nat → Prop) (pl : Nat → Nat) (Ed : Nat → Nat → Prop) (k n : Nat) (up0 up : Nat → Option Nat) : Prop where
  inv : Inv R pl Ed up
  elder : ∀ x, R x → n ≤ pl x → up x = up0 x
  done : ∀ x, R x → pl x < n → (∃ v, up x = some v) ∧ Good Ed up (k + 1) x
theorem Anc.mid {k n : Nat} {up0 : Nat → Option Nat} (m : Mid R pl Ed k n up0 up) {d c : Nat} (h : Anc up d c) (hv : ∃ v, up c = some v) : Anc up0 d c ∨ ∃ q, R q ∧ pl q < n ∧ Anc up0 q c ∧ Anc up d q := by
  induction h with
  | refl => exact .inl .refl
  | step hu h0 t ih =>
    rename_i b u
    rcases ih (m.inv.on _ _ h0 hu) with h | ⟨q, h1, h2, h3, h4⟩
    · rcases Nat.lt_or_ge (pl b) n with hb | hb
      · exact .inr ⟨b, (m.inv.r _ _ hu).1, hb, .refl, .step hu h0 t⟩
      · exact .inl (.step ((m.elder b (m.inv.r _ _ hu).1 hb).symm.trans hu) h0 h)
    · rcases Nat.lt_or_ge (pl b) n with hb | hb
      · exact .inr ⟨b, (m.inv.r _ _ hu).1, hb, .refl, .step hu h0 t⟩
      · exact .inr ⟨q, h1, h2, .step ((m.elder b (m.inv.r _ _ hu).1 hb).symm.trans hu) h0 h3, h4⟩
/-- a block more is done -/
theorem Mid.next (g : Gr R pl Ed) {k n : Nat} {up0 : Nat → Option Nat} (m : Mid R pl Ed k n up0 up) (g0 : ∀ x, R x → Good Ed up0 k x) (all0 : ∀ d x, AvL Ed d k x → ∃ v, up x = some v) {b c : Nat} {l : List Nat} (hb : R b) (hb0 : b ≠ 0) (hn : pl b = n) (hl : ∀ p, p ∈ l ↔ Ed p b) (h : Common up l (some c)) :
    Mid R pl Ed k (n + 1) up0 (upd up b c) := by
  obtain ⟨p, hpe, hpb⟩ := g.par b hb hb0
  have hpv := (m.done p (g.ed _ _ hpe).1 (by omega)).1
  have i := m.inv
  have i' := i.upd hb hb0 hl h ⟨p, (hl p).2 hpe, hpv, hpb⟩
  have hcp := h.anc c p rfl ((hl p).2 hpe) hpv
  have hlt : pl c < pl b := Nat.lt_of_le_of_lt (hcp.le i) hpb
  refine ⟨i', fun x hx hpx => ?_, fun x hx hpx => ?_⟩
  · have hne : x ≠ b := by rintro rfl; omega
    rw [upd_ne hne]; exact m.elder x hx (by omega)
  · by_cases e : x = b
    · subst e
      refine ⟨⟨c, upd_self _ _⟩, fun d hd ha => ?_⟩
      have ha' : Anc up d c := (Anc.upd_low i hlt).1 (ha.up_of_ne hd.ne.symm (upd_self _ _))
      cases hd with
      | zero _ _ => exact hb0 rfl
      | snoc hav e s =>
        rename_i q
        have hqv := all0 d q hav
        have haq := ha'.trans (h.anc c q rfl ((hl q).2 e) hqv)
        have hqR := hav.r g
        rcases Nat.lt_or_ge (pl q) n with hq | hq
        · exact (m.done q hqR hq).2 d (hav.mono (by omega)) haq
        · rcases haq.mid m hqv with h1 | ⟨y, h1, h2, h3, h4⟩
          · exact g0 q hqR d hav h1
          · rcases hav.split (q := y) with h5 | h5
            · exact g0 q hqR y h5 h3
            · exact (m.done y h1 h2).2 d (h5.mono (by omega)) h4
    · have hpl : pl x < n := by
        have : pl x ≠ n := fun e2 => e (g.inj x b hx hb (e2.trans hn.symm))
        omega
      rw [upd_ne e]
      refine ⟨(m.done x hx hpl).1, fun d hd ha => (m.done x hx hpl).2 d hd ((Anc.upd_low i (by omega)).1 ha)⟩
/-- a round begins -/
theorem Mid.start (g : Gr R pl Ed) {k : Nat} (i : Inv R pl Ed up) : Mid R pl Ed k 1 up up := by
  refine ⟨i, fun _ _ _ => rfl, fun x hx hpx => ?_⟩
  obtain rfl : x = 0 := g.inj x 0 hx g.r0 (by rw [g.pl0]; omega)
  exact ⟨⟨0, i.z⟩, fun d hd ha => hd.d0 ha.zero⟩
/-- the ways up are known by what is above -/
theorem up_known {up' : Nat → Option Nat} (g : Gr R pl Ed) (i : Inv R pl Ed up) (i' : Inv R pl Ed up') {b u u' : Nat} (h0 : b ≠ 0) (h : up b = some u) (h' : up' b = some u') (hs : ∀ d, Anc up d b ↔ Anc up' d b) : u = u' := by
  have h1 := i.lt b u h0 h
  have h1' := i'.lt b u' h0 h'
  have a1 : Anc up' u b := (hs u).1 (.step h h0 .refl)
  have a2 : Anc up u' b := (hs u').2 (.step h' h0 .refl)
  have b1 := (a1.up_of_ne (by rintro rfl; omega) h').le i'
  have b2 := (a2.up_of_ne (by rintro rfl; omega) h).le i
  exact g.inj u u' (i.r b u h).2 (i'.r b u' h').2 (by omega)
/-- all blocks done, one behind the other -/
inductive Pass (prs : Nat → List Nat) : (Nat → Option Nat) → List Nat → (Nat → Option Nat) → Prop
  | nil (up : Nat → Option Nat) : Pass prs up [] up
  | cons {up up' : Nat → Option Nat} {b c : Nat} {l : List Nat} (h : Common up (prs b) (some c)) (t : Pass prs (upd up b c) l up') : Pass prs up (b :: l) up'
theorem Pass.mid (g : Gr R pl Ed) {prs : Nat → List Nat} (hp : ∀ b, R b → ∀ p, p ∈ prs b ↔ Ed p b) {k : Nat} {up0 : Nat → Option Nat} {l : List Nat} {up up' : Nat → Option Nat} (h : Pass prs up l up') :
    ∀ n, (∀ i b, l[i]? = some b → R b ∧ b ≠ 0 ∧ pl b = n + i) → Mid R pl Ed k n up0 up → (∀ x, R x → Good Ed up0 k x) → (∀ d x, AvL Ed d k x → ∃ v, up x = some v) → Mid R pl Ed k (n + l.length) up0 up' := by
  induction h with
  | nil up => intro n _ m _ _; exact m
  | cons hc t ih =>
    rename_i up up' b c l
    intro n hl m g0 all0
    obtain ⟨hb, hb0, hn⟩ := hl 0 b rfl
    have m1 := m.next g g0 all0 hb hb0 (by omega) (hp b hb) hc
    have := ih (n + 1) (fun i x hx => by obtain ⟨h1, h2, h3⟩ := hl (i + 1) x hx; exact ⟨h1, h2, by omega⟩) m1 g0 (fun d x hx => by
      by_cases e : x = b
      · subst e; exact ⟨c, upd_self _ _⟩
      · rw [upd_ne e]; exact all0 d x hx)
    rw [List.length_cons]
    rw [show n + (l.length + 1) = n + 1 + l.length by omega]
    exact this
def up0 : Nat → Option Nat := fun x => if x = 0 then some 0 else none
theorem inv0 (g : Gr R pl Ed) : Inv R pl Ed up0 := by
  refine ⟨rfl, fun b u h => ?_, fun b u h0 h => ?_, fun b u h0 h => ?_, fun b u h0 h => ?_, fun b u d h0 h => ?_⟩
  · unfold up0 at h; split at h
    · subst_vars; obtain rfl := Option.some.inj h; exact ⟨g.r0, g.r0⟩
    · cases h
  all_goals (unfold up0 at h; rw [if_neg h0] at h; cases h)
theorem good0 (x : Nat) : Good Ed up0 0 x := by
  intro d hd ha
  cases hd
  rename_i h
  exact h ha.zero
/-- the rounds: each begins where the last one ended -/
theorem rounds (g : Gr R pl Ed) {prs : Nat → List Nat} (hp : ∀ b, R b → ∀ p, p ∈ prs b ↔ Ed p b) {l : List Nat} (hl : ∀ i b, l[i]? = some b → R b ∧ b ≠ 0 ∧ pl b = 1 + i) (hm : ∀ x, R x → pl x < 1 + l.length) (ups : Nat → Nat → Option Nat) (h0 : ups 0 = up0) :
    ∀ k, (∀ j, j < k → Pass prs (ups j) l (ups (j + 1))) → Inv R pl Ed (ups k) ∧ (∀ x, R x → Good Ed (ups k) k x) ∧ (1 ≤ k → ∀ x, R x → ∃ v, ups k x = some v) := by
  intro k
  induction k with
  | zero => intro _; rw [h0]; exact ⟨inv0 g, fun x _ => good0 x, fun h => by omega⟩
  | succ k ih =>
    intro hs
    obtain ⟨i, h1, h2⟩ := ih (fun j hj => hs j (by omega))
    have m := (hs k (by omega)).mid g hp 1 hl (Mid.start (k := k) g i) h1 (fun d x hx => by
      rcases Nat.eq_zero_or_pos k with e | e
      · subst e
        cases hx
        exact ⟨0, i.z⟩
      · exact h2 e x (hx.r g))
    exact ⟨m.inv, fun x hx => (m.done x hx (hm x hx)).2, fun _ x hx => (m.done x hx (hm x hx)).1⟩
/-- from some round on what is above a block is what all ways to it pass -/
theorem known (g : Gr R pl Ed) {N : Nat} (hN : ∀ x, R x → x < N) : ∃ K, ∀ k up, K ≤ k → Inv R pl Ed up → (∀ x, R x → Good Ed up k x) → (∀ x, R x → ∃ v, up x = some v) → ∀ d b, R b → R d → (Anc up d b ↔ ¬ Av Ed d b) := by
  obtain ⟨K, hK⟩ := bound_av (Ed := Ed) N
  refine ⟨K, fun k up hk i hg hv d b hb hd => ⟨fun ha hav => ?_, fun h => dom_anc i _ b d (Nat.le_refl _) (hv b hb) hd h⟩⟩
  exact hg b hb d ((hK d b (hN d hd) (hN b hb) hav).mono hk) ha
theorem Anc.r (i : Inv R pl Ed up) {d b : Nat} (h : Anc up d b) (hb : R b) : R d := by
  induction h with
  | refl => exact hb
  | step hu h0 _ ih => exact ih (i.r _ _ hu).2
/-- a round that changes nothing is met -/
theorem ends (g : Gr R pl Ed) {N : Nat} (hN : ∀ x, R x → x < N) {prs : Nat → List Nat} (hp : ∀ b, R b → ∀ p, p ∈ prs b ↔ Ed p b) {l : List Nat} (hl : ∀ i b, l[i]? = some b → R b ∧ b ≠ 0 ∧ pl b = 1 + i) (hm : ∀ x, R x → pl x < 1 + l.length) (ups : Nat → Nat → Option Nat) (h0 : ups 0 = up0)
    (hs : ∀ k, Pass prs (ups k) l (ups (k + 1))) : ∃ k, ups (k + 1) = ups k := by
  obtain ⟨K, hK⟩ := known g hN
  have hr := fun k => rounds g hp hl hm ups h0 k (fun j _ => hs j)
  have kn := fun k (hk : K ≤ k) (h1 : 1 ≤ k) => hK k (ups k) hk (hr k).1 (hr k).2.1 ((hr k).2.2 h1)
  refine ⟨K + 1, funext fun b => ?_⟩
  by_cases hb : R b
  · by_cases hb0 : b = 0
    · subst hb0; rw [(hr (K + 1 + 1)).1.z, (hr (K + 1)).1.z]
    · obtain ⟨u, hu⟩ := (hr (K + 1)).2.2 (by omega) b hb
      obtain ⟨u', hu'⟩ := (hr (K + 1 + 1)).2.2 (by omega) b hb
      rw [hu, hu', up_known g (hr (K + 1)).1 (hr (K + 1 + 1)).1 hb0 hu hu' (fun d => ?_)]
      by_cases hd : R d
      · rw [kn (K + 1) (by omega) (by omega) d b hb hd, kn (K + 1 + 1) (by omega) (by omega) d b hb hd]
      · exact ⟨fun h => absurd (h.r (hr (K + 1)).1 hb) hd, fun h => absurd (h.r (hr (K + 1 + 1)).1 hb) hd⟩
  · have e : ∀ k, ups k b = none := fun k => by
      cases h : ups k b with
      | none => rfl
      | some u => exact absurd ((hr k).1.r b u h).1 hb
    rw [e, e]
/-- where a round changes nothing, what is above a block is what all ways to it pass -/
theorem fixed (g : Gr R pl Ed) {N : Nat} (hN : ∀ x, R x → x < N) {prs : Nat → List Nat} (hp : ∀ b, R b → ∀ p, p ∈ prs b ↔ Ed p b) {l : List Nat} (hl : ∀ i b, l[i]? = some b → R b ∧ b ≠ 0 ∧ pl b = 1 + i) (hm : ∀ x, R x → pl x < 1 + l.length) (ups : Nat → Nat → Option Nat) (h0 : ups 0 = up0)
    (k : Nat) (hs : ∀ j, j < k + 1 → Pass prs (ups j) l (ups (j + 1))) (he : ups (k + 1) = ups k) : Inv R pl Ed (ups k) ∧ (∀ x, R x → ∃ v, ups k x = some v) ∧ ∀ d b, R b → R d → (Anc (ups k) d b ↔ ¬ Av Ed d b) := by
  obtain ⟨K, hK⟩ := known g hN
  have hr := fun j => rounds g hp hl hm (fun j => if j ≤ k then ups j else ups k) (by simp only [Nat.zero_le, if_true]; exact h0) j (fun i _ => by
    rcases Nat.lt_or_ge i k with h | h
    · rw [if_pos (by omega), if_pos (by omega)]; exact hs i (by omega)
    · rw [if_neg (show ¬ i + 1 ≤ k by omega)]
      have e : (if i ≤ k then ups i else ups k) = ups k := by
        split
        · rw [show i = k by omega]
        · rfl
      have := hs k (by omega)
      rw [e]
      rw [he] at this
      exact this)
  obtain ⟨h1, h2, h3⟩ := hr (K + k + 1)
  simp only [if_neg (show ¬ K + k + 1 ≤ k by omega)] at h1 h2 h3
  exact ⟨h1, h3 (by omega), hK (K + k + 1) (ups k) (by omega) h1 h2 (h3 (by omega))⟩
end
end Go.Proofs.Ytemclhndmcjmmaa.DomTree
