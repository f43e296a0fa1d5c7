
/- What an argument reads as, by its type's shape: out of a row's reading the values that the walks speak of, and that they are well formed. -/
import Derived.SizedLaws
import Derived.ChangeSlices
import Derived.Deep.Slices
import Derived.DataReads
import Derived.Test.YtojmepkhbebllaaDoorWMore
import Derived.Test.YtojmepkhbebllaaDoorWSized
set_option linter.unusedVariables false
namespace Go.Proofs.YtojmepkhbebllaaDoor.Opens
open Go Go.RowKit Go.Proofs.YtojmepkhbebllaaDoorW.PrintWords

/-- Cells that read as a value of type t are one of the kind d, and it is well formed. -/
structure OpensAs {α : Type} (P : Program) (d : Kd α) (V : α → Prop) (t : TypeId) : Prop where
  sz : P.cellsOf t = d.sz
  opn : ∀ {H : Type} (enc : TypeId × Value → H) (w : World) (base : Nat) (spare : Nat → Bool) (held : Bool) (n : Nat) (cs : List Value) (x : DataW H × List MemPlace),
    DataW.trod enc P w base spare held n t cs = some x → (∀ m ∈ x.1.weights P t, m ≤ reachBytes) → ∃ a, d.K w a cs ∧ V a

theorem opens_int {P : Program} {t : TypeId} {k : IntKind} (ht : P.underlying t = some (.int k)) (hs : P.cellsOf t = 1) : OpensAs P (Kd.int k) (fun a => (Lit.int k a).wf = true) t :=
  ⟨hs, fun enc w base spare held n cs x h _ => by
    obtain ⟨a, rfl, _, hw⟩ := DataW.trod_int ht h
    exact ⟨a, rfl, hw⟩⟩
theorem opens_bool {P : Program} {t : TypeId} (ht : P.underlying t = some .bool) (hs : P.cellsOf t = 1) : OpensAs P Kd.bool (fun _ => True) t :=
  ⟨hs, fun enc w base spare held n cs x h _ => by
    obtain ⟨a, rfl, _⟩ := DataW.trod_bool ht h
    exact ⟨a, rfl, trivial⟩⟩
theorem opens_string {P : Program} {t : TypeId} (ht : P.underlying t = some .string) (hs : P.cellsOf t = 1) : OpensAs P Kd.string (fun a => a.size ≤ 140737488351232) t :=
  ⟨hs, fun enc w base spare held n cs x h hz => by
    obtain ⟨a, rfl, hx, _⟩ := DataW.trod_string ht h
    refine ⟨a, rfl, ?_⟩
    subst hx
    have := hz a.data.toList.length (by simp [DataW.weights])
    rw [Array.length_toList] at this
    exact this⟩
theorem weightsAll_mem {H : Type} {P : Program} {e : TypeId} : ∀ {ds : List (DataW H)} {d : DataW H}, d ∈ ds → ∀ m ∈ d.weights P e, m ∈ DataW.weightsAll P e ds
  | c :: ds, d, h, m, hm => by
    rw [DataW.weightsAll]
    rcases List.mem_cons.1 h with rfl | h
    · exact List.mem_append_left _ hm
    · exact List.mem_append_right _ (weightsAll_mem h m hm)
theorem list_of {α : Type} {Q : Nat → α → Prop} : ∀ n, (∀ i, i < n → ∃ c, Q i c) → ∃ l : List α, l.length = n ∧ ∀ i c, l[i]? = some c → Q i c
  | 0, _ => ⟨[], rfl, fun i c h => by simp at h⟩
  | n + 1, h => by
    obtain ⟨l, hl, hq⟩ := list_of n (fun i hi => h i (by omega))
    obtain ⟨c, hc⟩ := h n (by omega)
    refine ⟨l ++ [c], by simp [hl], fun i a ha => ?_⟩
    rcases Nat.lt_or_ge i l.length with h1 | h1
    · rw [List.getElem?_append_left h1] at ha; exact hq i a ha
    · have h2 := (List.getElem?_eq_some_iff.1 ha).1
      rw [List.length_append, List.length_singleton] at h2
      have : i = n := by omega
      subst this
      rw [List.getElem?_append_right h1, hl] at ha
      have : c = a := by simpa using ha
      exact this ▸ hc
theorem opens_slice {α : Type} {P : Program} {t e : TypeId} {d : Kd α} {V : α → Prop} {B : Nat} (ht : P.underlying t = some (.slice e)) (hs : P.cellsOf t = 1) (he : OpensAs P d V e) (hB : P.bytesOf e = B) :
    OpensAs P (Kd.slice e d) (fun l => l.length * B ≤ 140737488351232 ∧ l.length ≤ maxLen ∧ ∀ x ∈ l, V x) t :=
  ⟨hs, fun enc w base spare held n cs x h hz => by
    rcases DataW.trod_slice ht h with ⟨rfl, rfl⟩ | ⟨a, len, cap, elems, rest, m, _, rfl, rfl, hb, hl, hm, hlen, hel, _, _⟩
    · exact ⟨[], ⟨none, 0, rfl, Nat.le_refl _, rfl, Nat.zero_le _, fun h => absurd h (Nat.lt_irrefl 0)⟩, by simp, by simp, by simp⟩
    · have key : ∀ i, i < len → ∃ c, d.K w c ((w.cells? base (a.add (i * P.cellsOf e)) (P.cellsOf e)).getD []) ∧ V c ∧ ((w.cells? base (a.add (i * P.cellsOf e)) (P.cellsOf e))).isSome = true := by
        intro i hi
        have h1 := hel i hi
        rw [List.getElem?_eq_getElem (by omega)] at h1
        obtain ⟨cs', h2, h3⟩ := Option.bind_eq_some_iff.1 h1
        obtain ⟨c, hc, hv⟩ := he.opn enc w base spare held m cs' _ h3 (fun q hq => hz q (by
          simp only [DataW.weights, ht]
          refine List.mem_cons_of_mem _ (List.mem_append_left _ (weightsAll_mem ?_ q hq))
          exact List.mem_map.2 ⟨_, List.getElem_mem _, rfl⟩))
        exact ⟨c, by rw [h2]; exact hc, hv, by rw [h2]; rfl⟩
      obtain ⟨l, hfl, hget⟩ := list_of len key
      refine ⟨l, ⟨some a, cap, by rw [hfl], by omega, rfl, ?_, fun _ => ⟨a, rfl, ?_⟩⟩, ?_, by omega, ?_⟩
      · rw [hfl]; simp only [maxLen] at hm; omega
      · intro j p hj
        obtain ⟨hK, _, his⟩ := hget j p hj
        obtain ⟨cs', hcs⟩ := Option.isSome_iff_exists.1 his
        rw [hcs] at hK
        refine ⟨cs', d.K_len hK, hK, fun i u hu => ?_⟩
        obtain ⟨hl2, h3⟩ := World.cells?_some hcs
        have hi : i < P.cellsOf e := by
          have := (List.getElem?_eq_some_iff.1 hu).1
          omega
        have h4 := h3.2 i hi
        rw [hu] at h4
        rw [← he.sz]
        have ha : (a.add (j * P.cellsOf e)).add i = a.add (j * P.cellsOf e + i) := by
          unfold Addr.add
          by_cases h1 : j * P.cellsOf e = 0 <;> by_cases h2 : i = 0 <;> simp [h1, h2, Nat.add_assoc]
        rw [← ha]; exact h4
      · rw [hfl]
        have := hz ((elems.length + rest.length) * P.bytesOf e) (by simp [DataW.weights, ht])
        rw [hB, hlen] at this
        exact Nat.le_trans (Nat.mul_le_mul_right _ (Nat.le_add_right _ _)) this
      · intro p hp
        obtain ⟨i, hi, rfl⟩ := List.getElem_of_mem hp
        exact (hget i _ (List.getElem?_eq_getElem hi)).2.1⟩
/-- The fields from offset o on. -/
structure FieldsAs {α : Type} (P : Program) (d : Kd α) (V : α → Prop) (fs : List Field) (o : Nat) : Prop where
  opn : ∀ {H : Type} (enc : TypeId × Value → H) (w : World) (base : Nat) (spare : Nat → Bool) (held : Bool) (n : Nat) (cs : List Value) (xs : List (DataW H × List MemPlace)), cs.length = o + d.sz → xs.length = fs.length →
    (∀ (i : Nat) (f : Field), fs[i]? = some f → DataW.trod enc P w base spare held n f.type ((cs.drop f.offset).take (P.cellsOf f.type)) = xs[i]?) → (∀ m ∈ DataW.weightsEach P (fs.map (·.type)) (xs.map (·.1)), m ≤ reachBytes) → ∃ a, d.K w a (cs.drop o) ∧ V a
theorem fields_one {α : Type} {P : Program} {d : Kd α} {V : α → Prop} {f : Field} {o : Nat} (ho : f.offset = o) (hd : OpensAs P d V f.type) : FieldsAs P d V [f] o :=
  ⟨fun enc w base spare held n cs xs hl hxl hx hw => by
    have h0 := hx 0 f rfl
    match xs, hxl with
    | [x], _ =>
      obtain ⟨a, ha, hv⟩ := hd.opn enc w base spare held n _ x h0 (fun m hm => hw m (by simp [DataW.weightsEach, hm]))
      refine ⟨a, ?_, hv⟩
      rw [ho, List.take_of_length_le (by rw [List.length_drop, hl, hd.sz]; omega)] at ha
      exact ha⟩
theorem fields_cons {α β : Type} {P : Program} {d : Kd α} {e : Kd β} {V : α → Prop} {U : β → Prop} {f : Field} {fs : List Field} {o : Nat} (ho : f.offset = o) (hd : OpensAs P d V f.type) (hr : FieldsAs P e U fs (o + d.sz)) :
    FieldsAs P (Kd.pair d e) (fun x => V x.1 ∧ U x.2) (f :: fs) o :=
  ⟨fun enc w base spare held n cs xs hl hxl hx hw => by
    have hsz : (Kd.pair d e).sz = d.sz + e.sz := rfl
    have h0 := hx 0 f rfl
    match xs, hxl with
    | x :: xs, hxl =>
      obtain ⟨a, ha, hv⟩ := hd.opn enc w base spare held n _ x h0 (fun m hm => hw m (by simp [DataW.weightsEach, hm]))
      obtain ⟨b, hb, hu⟩ := hr.opn enc w base spare held n cs xs (by rw [hl, hsz]; omega) (by simpa using hxl) (fun i g hg => by have := hx (i + 1) g (by simpa using hg); simpa using this) (fun m hm => hw m (by simp only [List.map_cons, DataW.weightsEach, List.mem_append]; exact .inr hm))
      rw [ho, hd.sz] at ha
      refine ⟨(a, b), ⟨_, _, ?_, ha, hb⟩, hv, hu⟩
      rw [← List.drop_drop, List.take_append_drop]⟩
theorem opens_struct {α : Type} {P : Program} {d : Kd α} {V : α → Prop} {t : TypeId} {fs : Array Field} (ht : P.underlying t = some (.struct fs)) (hs : P.cellsOf t = d.sz) (hf : FieldsAs P d V fs.toList 0) : OpensAs P d V t :=
  ⟨hs, fun enc w base spare held n cs x h hz => by
    obtain ⟨xs, m, _, rfl, hl, hxl, hx⟩ := DataW.trod_struct ht h
    obtain ⟨a, ha, hv⟩ := hf.opn enc w base spare held m cs xs (by omega) (by simpa using hxl) (fun i f hf => hx i f (by simpa using hf)) (fun q hq => hz q (by simpa [DataW.weights, ht] using hq))
    exact ⟨a, by simpa using ha, hv⟩⟩
theorem opens_iso {α β : Type} {P : Program} {d : Kd α} {V : α → Prop} {t : TypeId} (f : β → α) (g : α → β) (hfg : ∀ a, f (g a) = a) (h : OpensAs P d V t) : OpensAs P (Kd.iso d f) (fun x => V (f x)) t :=
  ⟨h.sz, fun enc w base spare held n cs x hx hz => by
    obtain ⟨a, ha, hv⟩ := h.opn enc w base spare held n cs x hx hz
    exact ⟨g a, by show d.K w (f (g a)) cs; rw [hfg]; exact ha, by rw [hfg]; exact hv⟩⟩
/-- An argument. -/
theorem opens_arg {α : Type} {P : Program} {d : Kd α} {V : α → Prop} {t : TypeId} (ho : OpensAs P d V t) {H : Type} {enc : TypeId × Value → H} {w : World} {base : Nat} {spare : Nat → Bool} {held : Bool} {v : Value} {x : DataW H} {ps : List MemPlace} {ts : List TypeId} {ds : List (DataW H)} {j : Nat}
    (hsz : (DataW.weightsEach P ts ds).all (· ≤ reachBytes) = true) (ht : ts[j]? = some t) (hd : ds[j]? = some x) (h : DataW.Trod enc P w base spare held t v x ps) : ∃ a, d.K w a v.cells.toList ∧ V a := by
  obtain ⟨n, hn⟩ := h
  exact ho.opn enc w base spare held n _ _ hn (fun m hm => by
    have := List.all_eq_true.1 hsz m (DataW.weights_mem_each ht hd m hm)
    simpa using this)
theorem okWide_agg {P : Program} {w : World} {r : Reach} {base : Nat} {t : TypeId} {v : Value} {fs : Array Field} (ht : P.underlying t = some (.struct fs)) (h : Value.okWide P w r base t v) : ∃ cs, v = .agg cs := by
  unfold Value.okWide at h
  rw [ht] at h
  obtain ⟨cs, rfl, _⟩ := h
  exact ⟨cs, rfl⟩
end Go.Proofs.YtojmepkhbebllaaDoor.Opens
