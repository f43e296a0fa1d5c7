-- written by wip/print2.py
import Derived.Test.YtojmepkhbebllaaDoorPShowProgsx0
import Derived.Test.YtojmepkhbebllaaDoorPShowProgsx1
import Derived.Test.YtojmepkhbebllaaDoorPShowProgsx2
import Derived.Test.YtojmepkhbebllaaDoorPShowProgsx5
namespace Go.Proofs.YtojmepkhbebllaaDoor.PShowProgs
open Go.RowKit Go.Proofs.YtojmepkhbebllaaDoorW.PrintWords Go.Proofs.YtojmepkhbebllaaDoorW.PrintLast Go.Proofs.YtojmepkhbebllaaDoorW.PrintMore
attribute [local go_sem] max2_int min2_int max_two min_two max_three min_three max_four min_four   -- for this text's walks alone
set_option linter.unusedVariables false
set_option linter.unusedSimpArgs false

/-! ### show_fun: function 33 -/
/-! What show.fun writes, as bytes: for the walk (a builder holds bytes) and for the plain law. -/
def bl (s : ByteArray) : List UInt8 := s.data.toList
def opL (o : S24) : List UInt8 := bl (outS o.f0 o.f1 o.f2 o.f3 o.f4 o.f5 o.f6 o.f7 (fieldsL o.f0).data.toList)
def lineL (n : Int) (o : S24) : List UInt8 := [32, 32] ++ bl (vF n) ++ [32, 61, 32] ++ opL o ++ [10]
def opsL : Int → List (S24) → List UInt8
  | _, [] => []
  | n, o :: r => lineL n o ++ opsL (n + 1) r
def endL (e : S57) : List UInt8 := bl (endS e.f0 e.f1 e.f2 e.f3 e.f4 e.f5)
def blockL (i n : Int) (b : S59) : List UInt8 := bl (shD i) ++ bl (brS tF b.f0) ++ [10] ++ opsL (n + b.f0.length) b.f1 ++ [32, 32] ++ endL b.f2 ++ [10]
def blocksL : Int → Int → List (S59) → List UInt8
  | _, _, [] => []
  | i, n, b :: r => blockL i n b ++ blocksL (i + 1) (n + b.f0.length + b.f1.length) r
def funL (f : S44) : List UInt8 := [102, 117, 110, 99, 32] ++ bl (tF f.f0) ++ [10] ++ blocksL 0 0 f.f1
def opOk (o : S24) : Prop := (o.f5.size ≤ 16384 ∧ o.f6.length ≤ 2048 ∧ ∀ x ∈ o.f6, inI64 x) ∧ inI64 o.f1 ∧ inI64 o.f2 ∧ inI64 o.f3 ∧ inI64 o.f4
def endOk (e : S57) : Prop := (e.f4.length ≤ 2048 ∧ ∀ x ∈ e.f4, inI64 x) ∧ (e.f5.length ≤ 2048 ∧ ∀ x ∈ e.f5, inI64 x) ∧ inI64 e.f1 ∧ inI64 e.f2 ∧ inI64 e.f3
def blockOk (b : S59) : Prop := (b.f0.length ≤ 2048 ∧ ∀ x ∈ b.f0, inI64 x) ∧ (b.f1.length ≤ 2048 ∧ ∀ o ∈ b.f1, opOk o) ∧ endOk b.f2
def funOk (f : S44) : Prop := inI64 f.f0 ∧ f.f1.length ≤ 2048 ∧ ∀ b ∈ f.f1, blockOk b
def sigL (s : S52) : List UInt8 := [115, 105, 103, 32] ++ bl (brS tF s.f0) ++ [32] ++ bl (tF s.f1) ++ [10]
def clsL (c : S54) : List UInt8 := [99, 108, 97, 115, 115, 32] ++ bl (brS tF c.f0) ++ [32, 91] ++ jn [44] (c.f1.map shD) ++ [93, 10]
def sigOk (s : S52) : Prop := s.f0.length ≤ 2048 ∧ (∀ x ∈ s.f0, inI64 x) ∧ inI64 s.f1
def clsOk (c : S54) : Prop := c.f0.length ≤ 2048 ∧ (∀ x ∈ c.f0, inI64 x) ∧ c.f1.length ≤ 2048 ∧ (∀ x ∈ c.f1, inI64 x)
def progL (ss : List (S52)) (cs : List (S54)) (fs : List (S44)) : List UInt8 := ss.flatMap sigL ++ cs.flatMap clsL ++ fs.flatMap funL
theorem op_call (o : S24) (h : opOk o) : show_op.f o.f0 o.f1 o.f2 o.f3 o.f4 o.f5 o.f6 o.f7 = some (outS o.f0 o.f1 o.f2 o.f3 o.f4 o.f5 o.f6 o.f7 (fieldsL o.f0).data.toList) := by
  obtain ⟨⟨h1, h2, h3⟩, h4⟩ := h
  unfold show_op.f
  rw [if_pos ⟨⟨by omega, by omega, h3⟩, h4⟩]
theorem end_call (e : S57) (h : endOk e) : show_end.f e.f0 e.f1 e.f2 e.f3 e.f4 e.f5 = some (endS e.f0 e.f1 e.f2 e.f3 e.f4 e.f5) := by
  obtain ⟨⟨h1, h2⟩, ⟨h3, h4⟩, h5⟩ := h
  unfold show_end.f
  rw [if_pos ⟨⟨by omega, h2⟩, ⟨by omega, h4⟩, h5⟩]
theorem opsL_snoc : ∀ (l : List (S24)) (n : Int) (o : S24), opsL n (l ++ [o]) = opsL n l ++ lineL (n + l.length) o
  | [], n, o => by simp [opsL]
  | x :: l, n, o => by
    have := opsL_snoc l (n + 1) o
    simp only [List.cons_append, opsL, List.length_cons] at this ⊢
    rw [this, List.append_assoc]
    have e : n + 1 + (l.length : Int) = n + ((l.length + 1 : Nat) : Int) := by omega
    rw [e]
theorem brS_small (l : List Int) (hl : l.length ≤ 2048) (hi : ∀ x ∈ l, inI64 x) : (brS vF l).size ≤ 124930 := by
  unfold brS
  rw [ByteArray.size_append, ByteArray.size_append]
  have e3 := size_of_list2 (jn [44] (l.map vF))
  have h1 := jn_len (l.map vF)
  have h2 := lensB_map vF 60 vF_size l hi
  rw [List.length_map] at h1
  have e1 : (⟨#[40]⟩ : ByteArray).size = 1 := rfl
  have e2 : (⟨#[41]⟩ : ByteArray).size = 1 := rfl
  omega
theorem fields_len (K : Int) : (fieldsL K).data.toList.length ≤ 8 := by
  have e : (fieldsL K).data.toList.length = (fieldsL K).size := by simp
  rw [e]
  unfold fieldsL; split
  · rename_i h
    have : ∀ n : Fin 26, (Door.kind_fields_tab.getD n.val ByteArray.empty).size ≤ 8 := by decide +kernel
    exact this ⟨K.toNat, by omega⟩
  · decide
theorem opL_len (o : S24) (h : opOk o) : (opL o).length ≤ 1048596 := by
  obtain ⟨⟨hs, hl, hi⟩, ha, hb, hc, hn⟩ := h
  have key : ∀ (p : List UInt8) (x : ByteArray), (p.foldl (stepS o.f0 o.f1 o.f2 o.f3 o.f4 o.f5 o.f6 o.f7) x).size ≤ x.size + 131072 * p.length := by
    intro p
    induction p with
    | nil => intro x; simp
    | cons d p ih =>
      intro x
      have h1 := ih (stepS o.f0 o.f1 o.f2 o.f3 o.f4 o.f5 o.f6 o.f7 x d)
      have h2 : (stepS o.f0 o.f1 o.f2 o.f3 o.f4 o.f5 o.f6 o.f7 x d).size ≤ x.size + 131072 := by
        have e1 := shD_size o.f1 ha
        have e2 := shD_size o.f2 hb
        have e3 := shD_size o.f3 hc
        have e4 := shD_size o.f4 hn
        have e5 := nameS_size Door.show_signs_tab o.f4 signs_size
        have e6 : sp.size = 1 := rfl
        have e7 : vS.size = 1 := rfl
        have e8 : stackS.size = 6 := rfl
        have e9 := quoteS_size o.f5
        have e10 := brS_small o.f6 hl hi
        unfold stepS
        repeat' split
        all_goals (try simp only [size_app])
        all_goals omega
      rw [List.foldl_cons, List.length_cons]
      omega
  have h1 := key (fieldsL o.f0).data.toList (nameS Door.show_steps_tab o.f0)
  have h2 := nameS_size Door.show_steps_tab o.f0 steps_size
  have h3 := fields_len o.f0
  have e : (opL o).length = (outS o.f0 o.f1 o.f2 o.f3 o.f4 o.f5 o.f6 o.f7 (fieldsL o.f0).data.toList).size := by unfold opL bl; simp
  rw [e]
  unfold outS
  omega
theorem lineL_len (n : Int) (o : S24) (h : opOk o) (hn : inI64 n) : (lineL n o).length ≤ 1048700 := by
  have h1 := opL_len o h
  have h2 := vF_size n hn
  have e : (bl (vF n)).length = (vF n).size := by unfold bl; simp
  unfold lineL
  simp only [List.length_append, List.length_cons, List.length_nil]
  omega
theorem opsL_len : ∀ (l : List (S24)) (n : Int), 0 ≤ n → n + l.length ≤ 9223372036854775000 → (∀ o ∈ l, opOk o) → (opsL n l).length ≤ l.length * 1048700
  | [], n, _, _, _ => by simp [opsL]
  | o :: l, n, h0, h1, h => by
    have h1' : n + ((l.length : Int) + 1) ≤ 9223372036854775000 := by simpa using h1
    have a := lineL_len n o (h o List.mem_cons_self) ⟨by omega, by omega⟩
    have b := opsL_len l (n + 1) (by omega) (by omega) (fun o ho => h o (List.mem_cons_of_mem _ ho))
    simp only [opsL, List.length_append, List.length_cons, Nat.add_mul]
    omega
theorem brt_small (l : List Int) (hl : l.length ≤ 2048) (hi : ∀ x ∈ l, inI64 x) : (brS tF l).size ≤ 124930 := by
  unfold brS
  rw [ByteArray.size_append, ByteArray.size_append]
  have e3 := size_of_list2 (jn [44] (l.map tF))
  have h1 := jn_len (l.map tF)
  have h2 := lensB_map tF 60 tF_size l hi
  rw [List.length_map] at h1
  have e1 : (⟨#[40]⟩ : ByteArray).size = 1 := rfl
  have e2 : (⟨#[41]⟩ : ByteArray).size = 1 := rfl
  omega
theorem endS_small (e0 e1 e2 e3 : Int) (el em : List Int) (hel : el.length ≤ 2048 ∧ ∀ x ∈ el, inI64 x) (hem : em.length ≤ 2048 ∧ ∀ x ∈ em, inI64 x) (he1 : inI64 e1) (he2 : inI64 e2) (he3 : inI64 e3) : (endS e0 e1 e2 e3 el em).size ≤ 300000 := by
  have sl := brS_small el hel.1 hel.2
  have sm := brS_small em hem.1 hem.2
  have a1 := vF_size e1 he1
  have a2 := shD_size e2 he2
  have a3 := shD_size e3 he3
  have c1 : jumpS.size = 5 := rfl
  have c2 : branchS.size = 7 := rfl
  have c3 : retS.size = 4 := rfl
  have c4 : stopS.size = 5 := rfl
  have c5 : sp.size = 1 := rfl
  have c6 : (⟨#[63]⟩ : ByteArray).size = 1 := rfl
  unfold endS; repeat' split
  all_goals (try simp only [ByteArray.size_append]); omega
/-! ### show.fun: the builder's calls with a frame above the builder; sums over blocks. -/
theorem ownsRow_kind {w : World} {B : Nat} {e : TypeId} {v : Value} {n : Nat} {xs : List Value} (h : w.ownsRow B e 1 v n xs) : ∀ g, v.ownBlock = some g → ∃ c fz, w.heap[g]? = some (.cells c e fz) := by
  intro g hg
  rcases h.2 with ⟨rfl, _⟩ | ⟨g', cap, cur, rfl, _, hgg, _⟩
  · simp [Value.ownBlock] at hg
  · simp only [Value.ownBlock, Option.some.injEq] at hg
    subst hg
    exact ⟨_, _, hgg⟩
set_option maxHeartbeats 1000000 in
set_option maxRecDepth 100000 in
theorem copyCheck_k (B b : Nat) (bs : List Value) (w : World) (h : Lib.IsBuilder 66 5 B b bs w) :
    Calls Tryd.prog 52 #[.pointer (some ⟨b, 0, none⟩)] w fun e w' => e = .returned (.tuple #[]) ∧ Lib.BuilderAt 66 5 B b (.pointer (some ⟨b, 0, none⟩)) bs w' ∧ Below B w w' ∧ Lib.OthersKept 5 (some b) w w' := by
  obtain ⟨j, hj, hjs⟩ := sizeB
  rcases h with h | h
  · have h0 := h.cell0
    have hsh := h.shape
    have hfz := h.frozen0
    refine Calls.mono (R := fun e w' => e = .returned (.tuple #[]) ∧ w' = w.setCell ⟨b, 0, none⟩ (.pointer (some ⟨b, 0, none⟩))) ?_ ?_
    · clear h
      go_enter Tryd.func52, Tryd.ntmps52
      go_wp2
      rw [Lib.run_to_unsafe w ⟨b, 0, none⟩ Tryd.underlying64 Tryd.underlying106 hj (by rw [hjs]; decide) hsh (Nat.zero_lt_succ 1)]
      simp only [Result.andThen]
      rw [Oper.upon_value]
      go_wp2
      rw [run_callFunc_extern Tryd.func66 (by kernel_rfl) (by kernel_rfl) (by kernel_rfl) (e := Extern.AbiNoEscape.same) (by kernel_rfl)]
      rw [Lib.run_noEscape]
      simp only [Result.andThen]
      rw [Oper.upon_value]
      go_wp2
      rw [Lib.run_from_unsafe w ⟨b, 0, none⟩ Tryd.underlying106 Tryd.underlying64 hj hsh liesB]
      simp only [Result.andThen]
      rw [Oper.upon_value]
      go_wp2
      go_end0
      exact ⟨rfl, rfl⟩
    · rintro e w' ⟨rfl, rfl⟩
      exact ⟨rfl, h.used _, (Below.refl B w).setCell (p := ⟨b, 0, none⟩) h.1 _, (Lib.OthersKept.refl _ _ w).setCell ⟨b, 0, none⟩ rfl _⟩
  · have h0 := h.cell0
    refine Calls.mono (R := fun e w' => e = .returned (.tuple #[]) ∧ w' = w) ?_ ?_
    · clear h
      go_enter Tryd.func52, Tryd.ntmps52
      go_wp2
      rw [Lib.run_neq_ptr_same w _ Tryd.underlying64 hj]
      go_wp2
      go_end0
      exact ⟨rfl, rfl⟩
    · rintro e w' ⟨rfl, rfl⟩
      exact ⟨rfl, h, Below.refl B w', Lib.OthersKept.refl _ _ _⟩
set_option maxHeartbeats 2000000 in
set_option maxRecDepth 100000 in
theorem writeString_k (B b : Nat) (bs : List Value) (s : ByteArray) (w : World) (h : Lib.IsBuilder 66 5 B b bs w) (hlen : bs.length + s.size ≤ 140737488355328) (hBw : B ≤ w.heap.size) :
    Calls Tryd.prog 29 #[.pointer (some ⟨b, 0, none⟩), .string s] w fun e w' => e = .returned (.tuple #[.int .i64 s.size, .nilIface]) ∧ Lib.BuilderAt 66 5 B b (.pointer (some ⟨b, 0, none⟩)) (bs ++ Lib.strCells s) w' ∧ Below B w w' ∧ Lib.OthersKept 5 (some b) w w' := by
  obtain ⟨i0, hi, hz0, hz1, hz2⟩ := infoB5
  go_enter Tryd.func29, Tryd.ntmps29
  go_wp2_with (go_at_call 52; refine (copyCheck_k B b bs _ h).mono ?_)
  rintro e w1 ⟨rfl, h1, hb1, hk1⟩
  obtain ⟨hB, v, hbk, hown, hne⟩ := h1
  have c0 : w1.cell? ⟨b, 0, none⟩ = some (.pointer (some ⟨b, 0, none⟩)) := by rw [Lib.cell_of_heap hbk]; rfl
  have c1 : w1.cell? ⟨b, 1, none⟩ = some v := by rw [Lib.cell_of_heap hbk]; rfl
  go_wp2_with (at_builtin; refine Lib.wpList_append_own_string _ rfl _ _ 60 9 rfl B 5 i0 Tryd.underlying60 Tryd.underlying9 hi hz0 hz1 hz2 _ _ _ rfl hown s rfl ?c3 ?c4 ?c5 ?_)
  case c3 => unfold maxLen; omega
  case c4 => omega
  case c5 => have := hb1.size; omega
  intro v' w2 hown' hgrow _
  have hlt : b < w1.heap.size := (Array.getElem?_eq_some_iff.1 hbk).1
  have hb2 : w2.heap[b]? = some (.cells #[.pointer (some ⟨b, 0, none⟩), v] 66 (0, 0)) := by
    rw [hgrow.block b hlt (fun e => hne e.symm)]
    exact hbk
  have d0 : w2.cell? ⟨b, 0, none⟩ = some (.pointer (some ⟨b, 0, none⟩)) := by rw [Lib.cell_of_heap hb2]; rfl
  have d1 : w2.cell? ⟨b, 1, none⟩ = some v := by rw [Lib.cell_of_heap hb2]; rfl
  have f1 : w2.frozen? ⟨b, 1, none⟩ = false := Lib.frozen_of_heap hb2 1
  obtain ⟨A, cap, rfl⟩ := own_slice hown'
  go_wp2
  go_ret2
  refine ⟨rfl, ?_, ?_, ?_⟩
  · exact Lib.BuilderAt.put (T := 66) (e := 5) hB hb2 (bs' := bs ++ Lib.strCells s) (by simpa [Lib.strCells_length] using hown') (by decide)
  · exact (hb1.grown hgrow (by have := hb1.size; omega) (fun k hk => (hown.lt k hk).1)).setCell (p := ⟨b, 1, none⟩) hB _
  · exact (hk1.grown hgrow (ownsRow_kind hown)).setCell ⟨b, 1, none⟩ rfl _
/-- a builder in the hands of show.fun: it holds bs; what was there at w0 is as it was -/
structure FS (w0 : World) (b : Nat) (bs : List UInt8) (X : World) : Prop where
  bel : Below w0.heap.size w0 X
  bld : Lib.IsBuilder 66 5 w0.heap.size b (Lib.byteCells bs) X
theorem IsBuilder.below_ {B b : Nat} {bs : List Value} {w w' : World} (h : Lib.IsBuilder 66 5 B b bs w) (hb : Below w.heap.size w w') : Lib.IsBuilder 66 5 B b bs w' := by
  rcases h with h | h
  · exact .inl (BuilderAt.below_ h hb)
  · exact .inr (BuilderAt.below_ h hb)
theorem FS.below {w0 : World} {b : Nat} {bs : List UInt8} {X X' : World} (h : FS w0 b bs X) (hb : Below X.heap.size X X') : FS w0 b bs X' :=
  ⟨below_step h.bel hb, IsBuilder.below_ h.bld hb⟩
theorem FS.ne {w0 : World} {b : Nat} {bs : List UInt8} {X : World} (h : FS w0 b bs X) {g : Nat} {cs : Array Value} {t : TypeId} (hb : X.heap[g]? = some (.cells cs t (0, 0))) (ht : t ≠ 66) : g ≠ b := by
  rcases h.bld with ⟨_, v, hv, _⟩ | ⟨_, v, hv, _⟩
  · exact blk_ne hb hv ht
  · exact blk_ne hb hv ht
theorem FS.kept {w0 : World} {b : Nat} {bs : List UInt8} {X X' : World} (h : FS w0 b bs X) (hk : Lib.OthersKept 5 (some b) X X') {g : Nat} {cs : Array Value} {t : TypeId} (hb : X.heap[g]? = some (.cells cs t (0, 0))) (ht : t ≠ 66) (ht' : t ≠ 5) : X'.heap[g]? = some (.cells cs t (0, 0)) :=
  hk g _ hb (fun e => h.ne hb ht (Option.some.inj e)) (fun c fz e => ht' (by injection e with _ e2 _))
theorem FS.write {w0 : World} {b : Nat} {bs : List UInt8} {X : World} (h : FS w0 b bs X) (s : ByteArray) (hlen : bs.length + s.size ≤ 140737488355328) :
    Calls Tryd.prog 29 #[.pointer (some ⟨b, 0, none⟩), .string s] X fun e w' => e = .returned (.tuple #[.int .i64 s.size, .nilIface]) ∧ FS w0 b (bs ++ bl s) w' ∧ Lib.OthersKept 5 (some b) X w' := by
  refine (writeString_k w0.heap.size b (Lib.byteCells bs) s X h.bld (by rw [Lib.byteCells_length]; exact hlen) h.bel.size).mono ?_
  rintro e w' ⟨rfl, h1, h2, h3⟩
  refine ⟨rfl, ⟨h.bel.trans h2, .inr ?_⟩, h3⟩
  have e : Lib.byteCells bs ++ Lib.strCells s = Lib.byteCells (bs ++ bl s) := by rw [Lib.strCells_eq, ← Lib.byteCells_append]; rfl
  rw [e] at h1
  exact h1
theorem box8 {w : World} {g : Nat} {t : TypeId} {z0 z1 z2 z3 z4 z5 z6 z7 : Value} (h : w.heap[g]? = some (.cells #[z0, z1, z2, z3, z4, z5, z6, z7] t (0, 0))) (v0 v1 v2 v3 v4 v5 v6 v7 : Value) :
    ((((((((w.setCell ⟨g, 0, none⟩ v0).setCell ⟨g, 1, none⟩ v1).setCell ⟨g, 2, none⟩ v2).setCell ⟨g, 3, none⟩ v3).setCell ⟨g, 4, none⟩ v4).setCell ⟨g, 5, none⟩ v5).setCell ⟨g, 6, none⟩ v6).setCell ⟨g, 7, none⟩ v7).heap[g]? = some (.cells #[v0, v1, v2, v3, v4, v5, v6, v7] t (0, 0)) := by
  have a0 := blk_put (cs' := #[v0, z1, z2, z3, z4, z5, z6, z7]) h 0 v0 rfl
  have a1 := blk_put (cs' := #[v0, v1, z2, z3, z4, z5, z6, z7]) a0 1 v1 rfl
  have a2 := blk_put (cs' := #[v0, v1, v2, z3, z4, z5, z6, z7]) a1 2 v2 rfl
  have a3 := blk_put (cs' := #[v0, v1, v2, v3, z4, z5, z6, z7]) a2 3 v3 rfl
  have a4 := blk_put (cs' := #[v0, v1, v2, v3, v4, z5, z6, z7]) a3 4 v4 rfl
  have a5 := blk_put (cs' := #[v0, v1, v2, v3, v4, v5, z6, z7]) a4 5 v5 rfl
  have a6 := blk_put (cs' := #[v0, v1, v2, v3, v4, v5, v6, z7]) a5 6 v6 rfl
  have a7 := blk_put (cs' := #[v0, v1, v2, v3, v4, v5, v6, v7]) a6 7 v7 rfl
  exact a7
theorem below8 {B : Nat} {w0 w : World} {g : Nat} (h : Below B w0 w) (hg : B ≤ g) (v0 v1 v2 v3 v4 v5 v6 v7 : Value) :
    Below B w0 ((((((((w.setCell ⟨g, 0, none⟩ v0).setCell ⟨g, 1, none⟩ v1).setCell ⟨g, 2, none⟩ v2).setCell ⟨g, 3, none⟩ v3).setCell ⟨g, 4, none⟩ v4).setCell ⟨g, 5, none⟩ v5).setCell ⟨g, 6, none⟩ v6).setCell ⟨g, 7, none⟩ v7) :=
  (((((((h.setCell (p := ⟨g, 0, none⟩) hg v0).setCell (p := ⟨g, 1, none⟩) hg v1).setCell (p := ⟨g, 2, none⟩) hg v2).setCell (p := ⟨g, 3, none⟩) hg v3).setCell (p := ⟨g, 4, none⟩) hg v4).setCell (p := ⟨g, 5, none⟩) hg v5).setCell (p := ⟨g, 6, none⟩) hg v6).setCell (p := ⟨g, 7, none⟩) hg v7
theorem bl_app (a b : ByteArray) : bl (a ++ b) = bl a ++ bl b := by simp [bl]
theorem bl_len (a : ByteArray) : (bl a).length = a.size := by unfold bl; simp
/-- how many values blocks have -/
def cntB : List (S59) → Int
  | [] => 0
  | b :: r => (b.f0.length : Int) + b.f1.length + cntB r
theorem cntB_app : ∀ (a b : List (S59)), cntB (a ++ b) = cntB a + cntB b
  | [], b => by simp [cntB]
  | x :: a, b => by simp only [List.cons_append, cntB, cntB_app a b]; omega
theorem cntB_nn : ∀ (a : List (S59)), 0 ≤ cntB a
  | [] => by simp [cntB]
  | x :: a => by have := cntB_nn a; simp only [cntB]; omega
theorem cntB_le : ∀ (a : List (S59)), (∀ b ∈ a, blockOk b) → cntB a ≤ 4096 * a.length
  | [], _ => by simp [cntB]
  | x :: a, h => by
    have := cntB_le a (fun b hb => h b (List.mem_cons_of_mem _ hb))
    have h1 := (h x List.mem_cons_self).1.1
    have h2 := (h x List.mem_cons_self).2.1.1
    simp only [cntB, List.length_cons]; omega
theorem blocksL_app : ∀ (a b : List (S59)) (i n : Int), blocksL i n (a ++ b) = blocksL i n a ++ blocksL (i + a.length) (n + cntB a) b
  | [], b, i, n => by simp [blocksL, cntB]
  | x :: a, b, i, n => by
    have := blocksL_app a b (i + 1) (n + x.f0.length + x.f1.length)
    simp only [List.cons_append, blocksL, this, cntB, List.length_cons, List.append_assoc]
    have e1 : i + 1 + (a.length : Int) = i + ((a.length + 1 : Nat) : Int) := by omega
    have e2 : n + (x.f0.length : Int) + x.f1.length + cntB a = n + ((x.f0.length : Int) + x.f1.length + cntB a) := by omega
    rw [e1, e2]
theorem blocksL_take (l : List (S59)) (k : Nat) (h : k < l.length) : blocksL 0 0 (l.take (k + 1)) = blocksL 0 0 (l.take k) ++ blockL k (cntB (l.take k)) l[k] := by
  rw [List.take_succ_eq_append_getElem h, blocksL_app]
  have e : (l.take k).length = k := by rw [List.length_take]; omega
  rw [e]
  simp [blocksL]
theorem blocksL_take_le (l : List (S59)) (k : Nat) : (blocksL 0 0 (l.take k)).length ≤ (blocksL 0 0 l).length := by
  have h := blocksL_app (l.take k) (l.drop k) 0 0
  rw [List.take_append_drop] at h
  rw [h, List.length_append]; omega
theorem opsL_app : ∀ (a b : List (S24)) (n : Int), opsL n (a ++ b) = opsL n a ++ opsL (n + a.length) b
  | [], b, n => by simp [opsL]
  | x :: a, b, n => by
    have := opsL_app a b (n + 1)
    simp only [List.cons_append, opsL, this, List.length_cons, List.append_assoc]
    have e1 : n + 1 + (a.length : Int) = n + ((a.length + 1 : Nat) : Int) := by omega
    rw [e1]
theorem opsL_take (l : List (S24)) (n : Int) (k : Nat) (h : k < l.length) : opsL n (l.take (k + 1)) = opsL n (l.take k) ++ lineL (n + k) l[k] := by
  rw [List.take_succ_eq_append_getElem h, opsL_snoc]
  have e : (l.take k).length = k := by rw [List.length_take]; omega
  rw [e]
theorem opsL_take_le (l : List (S24)) (n : Int) (k : Nat) : (opsL n (l.take k)).length ≤ (opsL n l).length := by
  have h := opsL_app (l.take k) (l.drop k) n
  rw [List.take_append_drop] at h
  rw [h, List.length_append]; omega
theorem wrapid {x : Int} (h0 : -9223372036854775808 ≤ x) (h1 : x ≤ 9223372036854775807) : wrap64 x = x := by unfold wrap64; omega
theorem first_l0 (l : List (S59)) (hl : l.length ≤ 2048) (h : ∀ b ∈ l, blockOk b) : ∀ (m k : Nat), k + m = l.length → code_first.l0 (m + 1) (cntB (l.take k)) l (l.length : Int) (k : Int) = some (cntB l)
  | 0, k, e => by
    have e1 : k = l.length := by omega
    subst e1
    simp [code_first.l0]
  | m + 1, k, e => by
    have hk : k < l.length := by omega
    have hb := h l[k] (List.getElem_mem hk)
    have h1 := hb.1.1
    have h2 := hb.2.1.1
    have h3 := cntB_nn (l.take k)
    have h4 := cntB_le (l.take k) (fun b hb => h b (List.mem_of_mem_take hb))
    have h5 : (l.take k).length = k := by rw [List.length_take]; omega
    rw [h5] at h4
    have hr : rd_T59 l (k : Int) = l[k] := by
      unfold rd_T59
      rw [Int.toNat_natCast, List.getD_eq_getElem?_getD, List.getElem?_eq_getElem hk, Option.getD_some]
    have ht : cntB (l.take (k + 1)) = cntB (l.take k) + ((l[k].f0.length : Int) + l[k].f1.length) := by
      rw [List.take_succ_eq_append_getElem hk, cntB_app]; simp [cntB]
    have q1 : -9223372036854775808 ≤ (l[k].f0.length : Int) + l[k].f1.length ∧ (l[k].f0.length : Int) + l[k].f1.length ≤ 9223372036854775807 := by omega
    have q2 : -9223372036854775808 ≤ cntB (l.take k) + ((l[k].f0.length : Int) + l[k].f1.length) ∧ cntB (l.take k) + ((l[k].f0.length : Int) + l[k].f1.length) ≤ 9223372036854775807 := by omega
    have q3 : -9223372036854775808 ≤ (k : Int) + 1 ∧ (k : Int) + 1 ≤ 9223372036854775807 := by omega
    have q4 : (k : Int) + 1 = ((k + 1 : Nat) : Int) := by omega
    have q5 : (k : Int) < (l.length : Int) := by omega
    have q6 : 0 ≤ (k : Int) := by omega
    have q7 : k + 1 + m = l.length := by omega
    unfold code_first.l0
    rw [if_pos q5, if_pos q6, if_pos q5, hr, wrapid q1.1 q1.2, wrapid q2.1 q2.2, wrapid q3.1 q3.2, q4, ← ht]
    exact first_l0 l hl h m (k + 1) q7
theorem first_f (a : Int) (l : List (S59)) (hl : l.length ≤ 2048) (h : ∀ b ∈ l, blockOk b) (k : Nat) (hk : k ≤ l.length) : code_First.f (k + 1) a l (k : Int) = some (cntB (l.take k)) := by
  have e0 : mn (k : Int) (l.length : Int) = k := by unfold mn; split <;> omega
  have e1 : mx 0 (k : Int) = k := by unfold mx; split <;> omega
  have h5 : (l.take k).length = k := by rw [List.length_take]; omega
  unfold code_First.f code_first.f
  rw [e0, e1, if_pos (by omega), if_pos (by omega), Int.toNat_natCast]
  have := first_l0 (l.take k) (by omega) (fun b hb => h b (List.mem_of_mem_take hb)) k 0 (by omega)
  rw [h5] at this
  simp only [Option.bind_some, h5]
  simp only [List.take_zero, cntB, Int.natCast_zero] at this
  rw [this]; rfl
theorem value_call2 (n : Int) (x : ByteArray) (e : vF n = x) (h : inI64 n) (X : World) (hG : Door.Laid X) : Calls Tryd.prog 42 #[.int .i64 n] X fun e w' => e = .returned (.string x) ∧ Below X.heap.size X w' := e ▸ value_call n h X hG
theorem value_call3 (n m : Int) (x : ByteArray) (e : vF n = x) (em : m = n) (h : inI64 n) (X : World) (hG : Door.Laid X) : Calls Tryd.prog 42 #[.int .i64 m] X fun e w' => e = .returned (.string x) ∧ Below X.heap.size X w' := em ▸ value_call2 n x e h X hG
theorem op_call2 (o : S24) (h : opOk o) (x : ByteArray) (e : outS o.f0 o.f1 o.f2 o.f3 o.f4 o.f5 o.f6 o.f7 (fieldsL o.f0).data.toList = x) (A : Option Addr) (c : Nat) (X : World) (hr : Kd.C (Kd.int .i64) X A o.f6.length o.f6) (hc : o.f6.length ≤ c) (hG : Door.Laid X) :
    Calls Tryd.prog 19 #[.agg #[.int .i64 o.f0, .int .i64 o.f1, .int .i64 o.f2, .int .i64 o.f3, .int .i64 o.f4, .string o.f5, .slice A o.f6.length c, .bool o.f7]] X fun e w' => e = .returned (.string x) ∧ Below X.heap.size X w' :=
  show_op.calls o.f0 o.f1 o.f2 o.f3 o.f4 o.f5 A c o.f6 o.f7 x X hr hc (e ▸ op_call o h) hG
set_option maxHeartbeats 16000000 in
set_option maxRecDepth 100000 in
theorem show_fun.calls (b : Nat) (bs : List UInt8) (f0 : Int) (A1 : Option Addr) (c1 : Nat) (l : List (S59)) (w0 w : World) (hI : FS w0 b bs w) (hC : Kd.C k59 w0 A1 l.length l) (hcap : l.length ≤ c1) (hok : funOk ⟨f0, l⟩) (hlen : bs.length + (funL ⟨f0, l⟩).length ≤ 140737488355328) (hG : Door.Laid w0) :
    Calls Tryd.prog 33 #[.pointer (some ⟨b, 0, none⟩), .agg #[.int .i64 f0, .slice A1 l.length c1]] w fun e w' => e = .returned (.tuple #[]) ∧ FS w0 b (bs ++ funL ⟨f0, l⟩) w' := by
  obtain ⟨hf0, hl, hbo⟩ := hok
  simp only at hf0 hl hbo
  have hsz := tF_size f0 hf0
  obtain ⟨xt, hxt⟩ : ∃ x, tF f0 = x := ⟨_, rfl⟩
  rw [hxt] at hsz
  have hfl : funL ⟨f0, l⟩ = bl (((⟨#[102, 117, 110, 99, 32]⟩ : ByteArray) ++ xt) ++ (⟨#[10]⟩ : ByteArray)) ++ blocksL 0 0 l := by
    unfold funL; rw [hxt]; simp only [bl_app]; rfl
  rw [hfl] at hlen ⊢
  obtain ⟨hd, hhd⟩ : ∃ x, ((⟨#[102, 117, 110, 99, 32]⟩ : ByteArray) ++ xt) ++ (⟨#[10]⟩ : ByteArray) = x := ⟨_, rfl⟩
  have hhs : hd.size ≤ 66 := by
    rw [← hhd, ByteArray.size_append, ByteArray.size_append]
    have : (⟨#[102, 117, 110, 99, 32]⟩ : ByteArray).size = 5 := rfl
    have : (⟨#[10]⟩ : ByteArray).size = 1 := rfl
    omega
  rw [hhd] at hlen ⊢
  rw [List.length_append, bl_len] at hlen
  have TC := fun (X : World) (hX : Door.Laid X) => by have := typed_call f0 X hf0 hX; rw [hxt] at this; exact this
  have HTC := zm TC
  have HBO := zm hbo
  have HLEN := zm hlen
  have HI := zm hI
  have HC := zm hC
  have HG := zm hG
  have HCAP := zm hcap
  have HHD := zm hhd
  clear TC hbo hI hC hG hcap hfl hxt hf0
  obtain ⟨W1, hW1⟩ : ∃ W1, w.alloc (.cells #[.int .i64 f0, .slice A1 l.length c1] 44) = W1 := ⟨_, rfl⟩
  obtain ⟨gf, hgf⟩ : ∃ gf, w.heap.size = gf := ⟨_, rfl⟩
  have hb1 : Below w.heap.size w W1 := by rw [← hW1]; exact below_alloc (Below.refl _ _) _
  have hB1 : W1.heap[gf]? = some (.cells #[.int .i64 f0, .slice A1 l.length c1] 44 (0, 0)) := by rw [← hW1, ← hgf]; exact heap_alloc_new w _
  have HS1 := zm (HI.out.below hb1)
  have HK1 := zm hB1
  have o0 : W1.cell? ⟨gf, 0, none⟩ = some (.int .i64 f0) := (blk_cell hB1 0).trans rfl
  have HGF := zm hgf
  clear hb1 hB1 hlen
  have g0 : 5 + xt.size ≤ 9223372036854775807 := by omega
  have g0a := eq_true g0
  have g0b := decide_eq_true g0
  have g0c : (9223372036854775807 < 5 + xt.size) = False := eq_false (Nat.not_lt.2 g0)
  have g1 : 5 + xt.size + 1 ≤ 9223372036854775807 := by omega
  have g1a := eq_true g1
  have g1b := decide_eq_true g1
  have g1c : (9223372036854775807 < 5 + xt.size + 1) = False := eq_false (Nat.not_lt.2 g1)
  go_enter Tryd.func33, Tryd.ntmps33
  go_wp2_with (first
    | (go_at_call 26; (with_reducible refine (HTC.out _ (HG.out.on HS1.out.bel)).mono ?_); rintro e W2 ⟨rfl, hb⟩; have HS2 := zm (HS1.out.below hb); have HK2 := zm (blk_below HK1.out hb); clear hb; have hr_ := HHD.out; clear o0)
    | (go_at_call 29; (with_reducible refine (HS2.out.write hd ?c1).mono ?_); (case c1 => (have := HLEN.out; omega)); rintro e W3 ⟨rfl, hs, hk⟩; have HK3 := zm (HS2.out.kept hk HK2.out (by decide) (by decide)); have HS3 := zm hs; clear hs hk; have p3_1 : W3.cell? ⟨gf, 1, none⟩ = some (.slice A1 l.length c1) := (blk_cell HK3.out 1).trans rfl; clear hr_))
  clear p3_1
  go_loopw [19] (fun v19 wr => ∃ k : Nat, v19 = .int .i64 k ∧ k ≤ l.length ∧ Aside0 (FS w0 b (bs ++ bl hd ++ blocksL 0 0 (l.take k)) wr ∧ wr.heap[gf]? = some (.cells #[.int .i64 f0, .slice A1 l.length c1] 44 (0, 0)))) (fun v19 _ => l.length - (intOf v19).toNat)
  case atStart => exact ⟨0, rfl, Nat.zero_le _, ⟨by have := HS3.out; simpa [blocksL] using this, HK3.out⟩⟩
  case round =>
    obtain ⟨k, rfl, hk, HR⟩ := hrel
    by_cases hlt : k < l.length
    · obtain ⟨B, hB⟩ : ∃ B, l[k] = B := ⟨_, rfl⟩
      have hbk : blockOk B := by rw [← hB]; exact HBO.out _ (List.getElem_mem hlt)
      obtain ⟨⟨hp, hpi⟩, ⟨hq, hqi⟩, he⟩ := hbk
      have hk0 : 0 ≤ (k : Int) := by omega
      have hk1 : (k : Int) < (l.length : Int) := by omega
      have hrd : rd_T59 l (k : Int) = B := by
        unfold rd_T59
        rw [Int.toNat_natCast, List.getD_eq_getElem?_getD, List.getElem?_eq_getElem hlt, Option.getD_some, hB]
      obtain ⟨ad, B0, d0, B1, d1, B6, d6, B7, d7, rfl, hx0, hx1, hx2, hx3, hx4, hx5, hx6, hx7, hl0, hi0, hl1, hi1, hl6, hi6, hl7, hi7⟩ := at_T59 HC.out k hk0 hk1
      rw [hrd] at hx0 hx1 hx2 hx3 hx4 hx5 hx6 hx7 hl0 hi0 hl1 hi1 hl6 hi6 hl7 hi7
      rw [Int.toNat_natCast] at hx0 hx1 hx2 hx3 hx4 hx5 hx6 hx7
      have hbel := HR.out.1.bel
      replace hx0 := pw_cell_below hbel hx0
      replace hx1 := pw_cell_below hbel hx1
      replace hx2 := pw_cell_below hbel hx2
      replace hx3 := pw_cell_below hbel hx3
      replace hx4 := pw_cell_below hbel hx4
      replace hx5 := pw_cell_below hbel hx5
      replace hx6 := pw_cell_below hbel hx6
      replace hx7 := pw_cell_below hbel hx7
      have HI0 := zm hi0
      have HI1 := zm hi1
      have HI6 := zm hi6
      have HI7 := zm hi7
      have HL0 := zm hl0
      have HL1 := zm hl1
      have HL6 := zm hl6
      have HL7 := zm hl7
      have HPI := zm hpi
      have HQI := zm hqi
      have HEN := zm he
      have hcn := cntB_nn (l.take k)
      have hcl := cntB_le (l.take k) (fun b hb => HBO.out b (List.mem_of_mem_take hb))
      have htl : (l.take k).length = k := by rw [List.length_take]; omega
      rw [htl] at hcl
      have hfst := first_f f0 l hl HBO.out k hk
      obtain ⟨n0, hn0⟩ : ∃ n0, cntB (l.take k) = n0 := ⟨_, rfl⟩
      rw [hn0] at hcn hcl hfst
      have HFST := zm hfst
      have htk := blocksL_take l k hlt
      have htle := blocksL_take_le l (k + 1)
      rw [hB, hn0] at htk
      have htb : bs.length + (hd.size + ((blocksL 0 0 (l.take k)).length + (blockL k n0 B).length)) ≤ 140737488355328 := by
        have := HLEN.out
        rw [htk, List.length_append] at htle
        omega
      obtain ⟨pre, hpre⟩ : ∃ pre, bs ++ bl hd ++ blocksL 0 0 (l.take k) = pre := ⟨_, rfl⟩
      have hprl : pre.length + (blockL k n0 B).length ≤ 140737488355328 := by
        rw [← hpre, List.length_append, List.length_append, bl_len]; omega
      have hnext : bs ++ bl hd ++ blocksL 0 0 (l.take (k + 1)) = pre ++ blockL k n0 B := by rw [htk, ← hpre]; simp only [List.append_assoc]
      rw [hpre] at HR
      have HNEXT := zm hnext
      have hik : inI64 (k : Int) := ⟨by omega, by omega⟩
      have hsk := shD_size (k : Int) hik
      have hsp := brt_small B.f0 hp hpi
      obtain ⟨xk, hxk⟩ : ∃ x, shD (k : Int) = x := ⟨_, rfl⟩
      obtain ⟨xp, hxp⟩ : ∃ x, brS tF B.f0 = x := ⟨_, rfl⟩
      rw [hxk] at hsk
      rw [hxp] at hsp
      have hse : (endS B.f2.f0 B.f2.f1 B.f2.f2 B.f2.f3 B.f2.f4 B.f2.f5).size ≤ 300000 := endS_small _ _ _ _ _ _ he.1 he.2.1 he.2.2.1 he.2.2.2.1 he.2.2.2.2
      obtain ⟨xe, hxe⟩ : ∃ x, endS B.f2.f0 B.f2.f1 B.f2.f2 B.f2.f3 B.f2.f4 B.f2.f5 = x := ⟨_, rfl⟩
      rw [hxe] at hse
      have hbll : blockL k n0 B = bl ((xk ++ xp) ++ (⟨#[10]⟩ : ByteArray)) ++ opsL (n0 + B.f0.length) B.f1 ++ bl (((⟨#[32, 32]⟩ : ByteArray) ++ xe) ++ (⟨#[10]⟩ : ByteArray)) := by
        unfold blockL endL; rw [hxk, hxp, hxe]; simp only [bl_app, List.append_assoc]; rfl
      rw [hbll] at hprl HNEXT
      obtain ⟨s1, hs1⟩ : ∃ s, (xk ++ xp) ++ (⟨#[10]⟩ : ByteArray) = s := ⟨_, rfl⟩
      obtain ⟨s3, hs3⟩ : ∃ s, ((⟨#[32, 32]⟩ : ByteArray) ++ xe) ++ (⟨#[10]⟩ : ByteArray) = s := ⟨_, rfl⟩
      rw [hs1, hs3] at hprl HNEXT
      rw [List.length_append, List.length_append, bl_len, bl_len] at hprl
      have KC := fun (X : World) (hX : Door.Laid X) => by have := sdigits_call (k : Int) X hik hX; rw [hxk] at this; exact this
      have HKC := zm KC
      have PC := fun (X : World) (hX : Below w0.heap.size w0 X) => by have := brt_call B0 d0 B.f0 X (Kd.C_below HI0.out hX) HL0.out (by omega) HPI.out (HG.out.on hX); rw [hxp] at this; exact this
      have HPC := zm PC
      have EC := fun (X : World) (hX : Below w0.heap.size w0 X) => by have := show_end.calls B.f2.f0 B.f2.f1 B.f2.f2 B.f2.f3 B6 d6 B.f2.f4 B7 d7 B.f2.f5 _ X (Kd.C_below HI6.out hX) HL6.out (Kd.C_below HI7.out hX) HL7.out (end_call B.f2 HEN.out) (HG.out.on hX); rw [hxe] at this; exact this
      have HEC := zm EC
      have HPRL := zm hprl
      have HS1_ := zm hs1
      have HS3_ := zm hs3
      have HN0 := zm hn0
      clear KC PC EC hik hpi hqi hi0 hi1 hi6 hi7 hl0 hl1 hl6 hl7 he hfst htk htle hnext hpre htb hprl hs1 hs3 hxk hxp hxe hbll htl hn0 hB hrd
      have j0 : xk.size + xp.size ≤ 9223372036854775807 := by omega
      have j0a := eq_true j0
      have j0b := decide_eq_true j0
      have j0c : (9223372036854775807 < xk.size + xp.size) = False := eq_false (Nat.not_lt.2 j0)
      have j1 : xk.size + xp.size + 1 ≤ 9223372036854775807 := by omega
      have j1a := eq_true j1
      have j1b := decide_eq_true j1
      have j1c : (9223372036854775807 < xk.size + xp.size + 1) = False := eq_false (Nat.not_lt.2 j1)
      have j2 : 2 + xe.size ≤ 9223372036854775807 := by omega
      have j2a := eq_true j2
      have j2b := decide_eq_true j2
      have j2c : (9223372036854775807 < 2 + xe.size) = False := eq_false (Nat.not_lt.2 j2)
      have j3 : 2 + xe.size + 1 ≤ 9223372036854775807 := by omega
      have j3a := eq_true j3
      have j3b := decide_eq_true j3
      have j3c : (9223372036854775807 < 2 + xe.size + 1) = False := eq_false (Nat.not_lt.2 j3)
      go_wp2_with (first | ((with_reducible refine gate_dst (N := 5) rfl ?_); refine box_event ?hg (N := 5) ?hd (cs := #[.slice none 0 0, .slice none 0 0, .int .i64 0, .int .i64 0, .int .i64 0, .int .i64 0, .slice none 0 0, .slice none 0 0]) (t := 59) ?hr ?_; (case hd => rfl); (case hg => rfl); (case hr => first | (go_simp; done) | (go_simp; rfl)); intro gb hgb W4 hbox hb; have Xgb := zm (And.intro hbox (And.intro hb hgb)); clear hb; have hzgb_0 : W4.cell? ⟨gb, 0, none⟩ = some (.slice none 0 0) := (blk_cell hbox 0).trans rfl; have hzgb_1 : W4.cell? ⟨gb, 1, none⟩ = some (.slice none 0 0) := (blk_cell hbox 1).trans rfl; have hzgb_2 : W4.cell? ⟨gb, 2, none⟩ = some (.int .i64 0) := (blk_cell hbox 2).trans rfl; have hzgb_3 : W4.cell? ⟨gb, 3, none⟩ = some (.int .i64 0) := (blk_cell hbox 3).trans rfl; have hzgb_4 : W4.cell? ⟨gb, 4, none⟩ = some (.int .i64 0) := (blk_cell hbox 4).trans rfl; have hzgb_5 : W4.cell? ⟨gb, 5, none⟩ = some (.int .i64 0) := (blk_cell hbox 5).trans rfl; have hzgb_6 : W4.cell? ⟨gb, 6, none⟩ = some (.slice none 0 0) := (blk_cell hbox 6).trans rfl; have hzgb_7 : W4.cell? ⟨gb, 7, none⟩ = some (.slice none 0 0) := (blk_cell hbox 7).trans rfl; have fzgb := fun j => blk_frozen hbox j; have fzgb_0 := fzgb 0; have fzgb_1 := fzgb 1; have fzgb_2 := fzgb 2; have fzgb_3 := fzgb 3; have fzgb_4 := fzgb 4; have fzgb_5 := fzgb 5; have fzgb_6 := fzgb 6; have fzgb_7 := fzgb 7; clear fzgb; clear hbox hgb))
      obtain ⟨hbx, hbb, hgb⟩ := Xgb.out
      obtain ⟨W5, hW5⟩ : ∃ W5, ((((((((W4.setCell ⟨gb, 0, none⟩ (.slice B0 B.f0.length d0)).setCell ⟨gb, 1, none⟩ (.slice B1 B.f1.length d1)).setCell ⟨gb, 2, none⟩ (.int .i64 B.f2.f0)).setCell ⟨gb, 3, none⟩ (.int .i64 B.f2.f1)).setCell ⟨gb, 4, none⟩ (.int .i64 B.f2.f2)).setCell ⟨gb, 5, none⟩ (.int .i64 B.f2.f3)).setCell ⟨gb, 6, none⟩ (.slice B6 B.f2.f4.length d6)).setCell ⟨gb, 7, none⟩ (.slice B7 B.f2.f5.length d7)) = W5 := ⟨_, rfl⟩
      have k5 := box8 hbx (.slice B0 B.f0.length d0) (.slice B1 B.f1.length d1) (.int .i64 B.f2.f0) (.int .i64 B.f2.f1) (.int .i64 B.f2.f2) (.int .i64 B.f2.f3) (.slice B6 B.f2.f4.length d6) (.slice B7 B.f2.f5.length d7)
      rw [hW5] at k5
      have b5 : Below wr.heap.size wr W5 := by rw [← hW5]; exact below8 hbb (Nat.le_of_eq hgb.symm) _ _ _ _ _ _ _ _
      rw [hW5]
      have HS5 := zm (HR.out.1.below b5)
      have HBw5 := zm HS5.out.bel
      have HF5 := zm (blk_below HR.out.2 b5)
      have HB5 := zm k5
      have o5B0 : W5.cell? ⟨gb, 0, none⟩ = some (.slice B0 B.f0.length d0) := (blk_cell k5 0).trans rfl
      have hs1_ := HS1_.out
      clear hzgb_0 fzgb_0 hzgb_1 fzgb_1 hzgb_2 fzgb_2 hzgb_3 fzgb_3 hzgb_4 fzgb_4 hzgb_5 fzgb_5 hzgb_6 fzgb_6 hzgb_7 fzgb_7
      clear hx0 hx1 hx2 hx3 hx4 hx5 hx6 hx7 hbx hbb hgb k5 b5 hW5 Xgb hbel
      go_region_held3 (fun w' => w'.cell? ⟨gb, 0, none⟩ = some (.slice B0 B.f0.length d0))
        (first | exact o5B0 | exact o6B0 | exact o7B0 | exact o8B0 | go_keep)
        (first
        | (go_at_call 32
           refine (HKC.out _ (HG.out.on (by repeat (first | with_reducible exact HBw5.out | refine below_drew ?_)))).mono ?_
           rintro e W6 ⟨rfl, hb⟩
           have HT6 := zm (below_step (w := W5) (by repeat (first | with_reducible exact Below.refl _ _ | refine below_drew ?_)) hb)
           have HS6 := zm (HS5.out.below HT6.out)
           have HBw6 := zm HS6.out.bel
           have HF6 := zm (blk_below HF5.out HT6.out)
           have HB6 := zm (blk_below HB5.out HT6.out)
           have o6B0 : W6.cell? ⟨gb, 0, none⟩ = some (.slice B0 B.f0.length d0) := (blk_cell HB6.out 0).trans rfl
           clear hb)
        | (go_at_call 30
           refine (HPC.out _ (by repeat (first | with_reducible exact HBw6.out | refine below_drew ?_))).mono ?_
           rintro e W7 ⟨rfl, hb⟩
           have HT7 := zm (below_step (w := W6) (by repeat (first | with_reducible exact Below.refl _ _ | refine below_drew ?_)) hb)
           have HS7 := zm (HS6.out.below HT7.out)
           have HBw7 := zm HS7.out.bel
           have HF7 := zm (blk_below HF6.out HT7.out)
           have HB7 := zm (blk_below HB6.out HT7.out)
           have o7B0 : W7.cell? ⟨gb, 0, none⟩ = some (.slice B0 B.f0.length d0) := (blk_cell HB7.out 0).trans rfl
           clear hb)
        | (go_at_call 29
           refine ((HS7.out.below (by repeat (first | with_reducible exact Below.refl _ _ | refine below_drew ?_))).write s1 ?c1).mono ?_
           case c1 => (have := HPRL.out; omega)
           rintro e W8 ⟨rfl, hs, hk⟩
           have HF8 := zm ((HS7.out.below (by repeat (first | with_reducible exact Below.refl _ _ | refine below_drew ?_))).kept hk (by (with_reducible repeat (first | refine blk_drewN ?_ _ | refine blk_drew ?_)); exact HF7.out) (by decide) (by decide))
           have HB8 := zm ((HS7.out.below (by repeat (first | with_reducible exact Below.refl _ _ | refine below_drew ?_))).kept hk (by (with_reducible repeat (first | refine blk_drewN ?_ _ | refine blk_drew ?_)); exact HB7.out) (by decide) (by decide))
           have HS8 := zm hs
           have HBw8 := zm HS8.out.bel
           have o8B0 : W8.cell? ⟨gb, 0, none⟩ = some (.slice B0 B.f0.length d0) := (blk_cell HB8.out 0).trans rfl
           clear hs hk))
      clear o5B0 o6B0 o7B0 hs1_
      clear o8B0
      have o8F0 : W8.cell? ⟨gf, 0, none⟩ = some (.int .i64 f0) := (blk_cell HF8.out 0).trans rfl
      have o8F1 : W8.cell? ⟨gf, 1, none⟩ = some (.slice (some ad) l.length c1) := (blk_cell HF8.out 1).trans rfl
      have o8B0 : W8.cell? ⟨gb, 0, none⟩ = some (.slice B0 B.f0.length d0) := (blk_cell HB8.out 0).trans rfl
      obtain ⟨n1, hn1⟩ : ∃ n1, n0 + (B.f0.length : Int) = n1 := ⟨_, rfl⟩
      have hn1a : 0 ≤ n1 := by omega
      have hn1b : n1 ≤ 8392704 := by omega
      have hn1c : -9223372036854775808 ≤ n0 + (B.f0.length : Int) := by omega
      have hn1d : n0 + (B.f0.length : Int) ≤ 9223372036854775807 := by omega
      have hn1w := zm (show IntKind.i64.wrap n1 = n1 from (IntWalk.i64_left _).trans (wrapid (by omega) (by omega)))
      go_wp2
      go_region_held3 (fun w' => w'.cell? ⟨gf, 0, none⟩ = some (.int .i64 f0) ∧ w'.cell? ⟨gf, 1, none⟩ = some (.slice (some ad) l.length c1) ∧ w'.cell? ⟨gb, 0, none⟩ = some (.slice B0 B.f0.length d0))
        (first | exact ⟨o8F0, o8F1, o8B0⟩ | exact ⟨o9F0, o9F1, o9B0⟩ | go_keep)
        (first
        | (go_at_call 54
           refine (code_First.calls (k + 1) f0 (some ad) c1 l (k : Int) n0 _ (Kd.C_below HC.out (by repeat (first | with_reducible exact HBw8.out | refine below_drew ?_))) HCAP.out HFST.out).mono ?_
           rintro e W9 ⟨rfl, hb⟩
           have HT9 := zm (below_step (w := W8) (by repeat (first | with_reducible exact Below.refl _ _ | refine below_drew ?_)) hb)
           have HS9 := zm (HS8.out.below HT9.out)
           have HBw9 := zm HS9.out.bel
           have HF9 := zm (blk_below HF8.out HT9.out)
           have HB9 := zm (blk_below HB8.out HT9.out)
           have o9F0 : W9.cell? ⟨gf, 0, none⟩ = some (.int .i64 f0) := (blk_cell HF9.out 0).trans rfl
           have o9F1 : W9.cell? ⟨gf, 1, none⟩ = some (.slice (some ad) l.length c1) := (blk_cell HF9.out 1).trans rfl
           have o9B0 : W9.cell? ⟨gb, 0, none⟩ = some (.slice B0 B.f0.length d0) := (blk_cell HB9.out 0).trans rfl
           clear hb))
      clear o8F0 o9F0 o8F1 o9F1 o8B0 o9B0
      rw [hn1w.out]
      clear hn1w hn1c hn1d
      have o9B1 : W9.cell? ⟨gb, 1, none⟩ = some (.slice B1 B.f1.length d1) := (blk_cell HB9.out 1).trans rfl
      go_wp2
      clear o9B1
      go_loopw [43] (fun v43 wq => ∃ j : Nat, v43 = .int .i64 j ∧ j ≤ B.f1.length ∧ Aside0 (FS w0 b (pre ++ bl s1 ++ opsL n1 (B.f1.take j)) wq ∧ wq.heap[gf]? = some (.cells #[.int .i64 f0, .slice (some ad) l.length c1] 44 (0, 0)) ∧ wq.heap[gb]? = some (.cells #[.slice B0 B.f0.length d0, .slice B1 B.f1.length d1, .int .i64 B.f2.f0, .int .i64 B.f2.f1, .int .i64 B.f2.f2, .int .i64 B.f2.f3, .slice B6 B.f2.f4.length d6, .slice B7 B.f2.f5.length d7] 59 (0, 0)))) (fun v43 _ => B.f1.length - (intOf v43).toNat)
      case atStart => exact ⟨0, rfl, Nat.zero_le _, ⟨by have := HS9.out; simpa [opsL] using this, HF9.out, HB9.out⟩⟩
      case round =>
        obtain ⟨j, rfl, hj, HQ⟩ := hrel
        by_cases hjt : j < B.f1.length
        · obtain ⟨o, ho⟩ : ∃ o, B.f1[j] = o := ⟨_, rfl⟩
          have hoo : opOk o := by rw [← ho]; exact HQI.out _ (List.getElem_mem hjt)
          have hj0 : 0 ≤ (j : Int) := by omega
          have hj1 : (j : Int) < (B.f1.length : Int) := by omega
          have hrd : rd_T24 B.f1 (j : Int) = o := by
            unfold rd_T24
            rw [Int.toNat_natCast, List.getD_eq_getElem?_getD, List.getElem?_eq_getElem hjt, Option.getD_some, ho]
          obtain ⟨ae, O6, e6, hae, hx0, hx1, hx2, hx3, hx4, hx5, hx6, hx7, hl6, hi6⟩ := at_T24 HI1.out j hj0 hj1
          subst hae
          rw [hrd] at hx0 hx1 hx2 hx3 hx4 hx5 hx6 hx7 hl6 hi6
          rw [Int.toNat_natCast] at hx0 hx1 hx2 hx3 hx4 hx5 hx6 hx7
          have hbel := HQ.out.1.bel
          replace hx0 := pw_cell_below hbel hx0
          replace hx1 := pw_cell_below hbel hx1
          replace hx2 := pw_cell_below hbel hx2
          replace hx3 := pw_cell_below hbel hx3
          replace hx4 := pw_cell_below hbel hx4
          replace hx5 := pw_cell_below hbel hx5
          replace hx6 := pw_cell_below hbel hx6
          replace hx7 := pw_cell_below hbel hx7
          have HO6 := zm hi6
          have HM6 := zm hl6
          have htk := opsL_take B.f1 n1 j hjt
          have htle := opsL_take_le B.f1 n1 (j + 1)
          rw [ho] at htk
          obtain ⟨cur, hcur⟩ : ∃ cur, pre ++ bl s1 ++ opsL n1 (B.f1.take j) = cur := ⟨_, rfl⟩
          have hcl_ : cur.length + (lineL (n1 + j) o).length ≤ 140737488355328 := by
            have := HPRL.out
            rw [htk, List.length_append] at htle
            rw [← hcur, List.length_append, List.length_append, bl_len]
            rw [hn1] at this
            omega
          have hnx : pre ++ bl s1 ++ opsL n1 (B.f1.take (j + 1)) = cur ++ lineL (n1 + j) o := by rw [htk, ← hcur]; simp only [List.append_assoc]
          rw [hcur] at HQ
          have hnj : inI64 (n1 + (j : Int)) := ⟨by omega, by omega⟩
          have hsv := vF_size _ hnj
          have hso := opL_len o hoo
          obtain ⟨xv, hxv⟩ : ∃ x, vF (n1 + (j : Int)) = x := ⟨_, rfl⟩
          obtain ⟨xo, hxo⟩ : ∃ x, outS o.f0 o.f1 o.f2 o.f3 o.f4 o.f5 o.f6 o.f7 (fieldsL o.f0).data.toList = x := ⟨_, rfl⟩
          have hopl : opL o = bl xo := by unfold opL; rw [hxo]
          rw [hopl, bl_len] at hso
          rw [hxv] at hsv
          have hln : lineL (n1 + j) o = bl (((((⟨#[32, 32]⟩ : ByteArray) ++ xv) ++ (⟨#[32, 61, 32]⟩ : ByteArray)) ++ xo) ++ (⟨#[10]⟩ : ByteArray)) := by
            unfold lineL; rw [hxv, hopl]; simp only [bl_app]; rfl
          obtain ⟨s2, hs2⟩ : ∃ s, ((((⟨#[32, 32]⟩ : ByteArray) ++ xv) ++ (⟨#[32, 61, 32]⟩ : ByteArray)) ++ xo) ++ (⟨#[10]⟩ : ByteArray) = s := ⟨_, rfl⟩
          rw [hs2] at hln
          rw [hln, bl_len] at hcl_
          rw [hln] at hnx
          have HVC := zm (fun (X : World) (hX : Door.Laid X) => value_call2 (n1 + (j : Int)) xv hxv hnj X hX)
          have HOC := zm (fun (X : World) (hX : Below w0.heap.size w0 X) => op_call2 o hoo xo hxo O6 e6 X (Kd.C_below HO6.out hX) HM6.out (HG.out.on hX))
          have HCL := zm hcl_
          have HNX := zm hnx
          have hw1 : -9223372036854775808 ≤ n1 + (j : Int) := by omega
          have hw2 : n1 + (j : Int) ≤ 9223372036854775807 := by omega
          have hw3 : wrap64 (n1 + (j : Int)) = n1 + (j : Int) := wrapid hw1 hw2
          have HVW := zm (fun (X : World) (hX : Door.Laid X) => value_call3 (n1 + (j : Int)) (IntKind.i64.wrap (n1 + (j : Int))) xv hxv ((IntWalk.i64_left _).trans hw3) hnj X hX)
          have HS2_ := zm hs2
          clear hs2 hcl_ hnx hln hopl hxo hxv hnj hcur htk htle hi6 hl6 ho hrd hoo
          clear hw3
          have q0 : 2 + xv.size ≤ 9223372036854775807 := by omega
          have q0a := eq_true q0
          have q0b := decide_eq_true q0
          have q0c : (9223372036854775807 < 2 + xv.size) = False := eq_false (Nat.not_lt.2 q0)
          have q1 : 2 + xv.size + 3 ≤ 9223372036854775807 := by omega
          have q1a := eq_true q1
          have q1b := decide_eq_true q1
          have q1c : (9223372036854775807 < 2 + xv.size + 3) = False := eq_false (Nat.not_lt.2 q1)
          have q2 : 2 + xv.size + 3 + xo.size ≤ 9223372036854775807 := by omega
          have q2a := eq_true q2
          have q2b := decide_eq_true q2
          have q2c : (9223372036854775807 < 2 + xv.size + 3 + xo.size) = False := eq_false (Nat.not_lt.2 q2)
          have q3 : 2 + xv.size + 3 + xo.size + 1 ≤ 9223372036854775807 := by omega
          have q3a := eq_true q3
          have q3b := decide_eq_true q3
          have q3c : (9223372036854775807 < 2 + xv.size + 3 + xo.size + 1) = False := eq_false (Nat.not_lt.2 q3)
          go_wp2_with (first | ((with_reducible refine gate_dst (N := 8) rfl ?_); refine box_event ?hg (N := 8) ?hd (cs := #[.int .i64 0, .int .i64 0, .int .i64 0, .int .i64 0, .int .i64 0, .string ⟨#[]⟩, .slice none 0 0, .bool false]) (t := 24) ?hr ?_; (case hd => rfl); (case hg => rfl); (case hr => first | (go_simp; done) | (go_simp; rfl)); intro go hgo W10 hbox hb; have Xgo := zm (And.intro hbox (And.intro hb hgo)); clear hb; have hzgo_0 : W10.cell? ⟨go, 0, none⟩ = some (.int .i64 0) := (blk_cell hbox 0).trans rfl; have hzgo_1 : W10.cell? ⟨go, 1, none⟩ = some (.int .i64 0) := (blk_cell hbox 1).trans rfl; have hzgo_2 : W10.cell? ⟨go, 2, none⟩ = some (.int .i64 0) := (blk_cell hbox 2).trans rfl; have hzgo_3 : W10.cell? ⟨go, 3, none⟩ = some (.int .i64 0) := (blk_cell hbox 3).trans rfl; have hzgo_4 : W10.cell? ⟨go, 4, none⟩ = some (.int .i64 0) := (blk_cell hbox 4).trans rfl; have hzgo_5 : W10.cell? ⟨go, 5, none⟩ = some (.string ⟨#[]⟩) := (blk_cell hbox 5).trans rfl; have hzgo_6 : W10.cell? ⟨go, 6, none⟩ = some (.slice none 0 0) := (blk_cell hbox 6).trans rfl; have hzgo_7 : W10.cell? ⟨go, 7, none⟩ = some (.bool false) := (blk_cell hbox 7).trans rfl; have fzgo := fun j => blk_frozen hbox j; have fzgo_0 := fzgo 0; have fzgo_1 := fzgo 1; have fzgo_2 := fzgo 2; have fzgo_3 := fzgo 3; have fzgo_4 := fzgo 4; have fzgo_5 := fzgo 5; have fzgo_6 := fzgo 6; have fzgo_7 := fzgo 7; clear fzgo; clear hbox hgo))
          obtain ⟨hbx, hbb, hgo⟩ := Xgo.out
          obtain ⟨W11, hW11⟩ : ∃ W11, ((((((((W10.setCell ⟨go, 0, none⟩ (.int .i64 o.f0)).setCell ⟨go, 1, none⟩ (.int .i64 o.f1)).setCell ⟨go, 2, none⟩ (.int .i64 o.f2)).setCell ⟨go, 3, none⟩ (.int .i64 o.f3)).setCell ⟨go, 4, none⟩ (.int .i64 o.f4)).setCell ⟨go, 5, none⟩ (.string o.f5)).setCell ⟨go, 6, none⟩ (.slice O6 o.f6.length e6)).setCell ⟨go, 7, none⟩ (.bool o.f7)) = W11 := ⟨_, rfl⟩
          have k11 := box8 hbx (.int .i64 o.f0) (.int .i64 o.f1) (.int .i64 o.f2) (.int .i64 o.f3) (.int .i64 o.f4) (.string o.f5) (.slice O6 o.f6.length e6) (.bool o.f7)
          rw [hW11] at k11
          have b11 : Below wr.heap.size wr W11 := by rw [← hW11]; exact below8 hbb (Nat.le_of_eq hgo.symm) _ _ _ _ _ _ _ _
          rw [hW11]
          have HS11 := zm (HQ.out.1.below b11)
          have HBw11 := zm HS11.out.bel
          have HF11 := zm (blk_below HQ.out.2.1 b11)
          have HB11 := zm (blk_below HQ.out.2.2 b11)
          have HO11 := zm k11
          have hs2_ := HS2_.out
          clear hzgo_0 fzgo_0 hzgo_1 fzgo_1 hzgo_2 fzgo_2 hzgo_3 fzgo_3 hzgo_4 fzgo_4 hzgo_5 fzgo_5 hzgo_6 fzgo_6 hzgo_7 fzgo_7
          clear hx0 hx1 hx2 hx3 hx4 hx5 hx6 hx7 hbx hbb hgo k11 b11 hW11 Xgo hbel
          have o11O0 : W11.cell? ⟨go, 0, none⟩ = some (.int .i64 o.f0) := (blk_cell HO11.out 0).trans rfl
          have o11O1 : W11.cell? ⟨go, 1, none⟩ = some (.int .i64 o.f1) := (blk_cell HO11.out 1).trans rfl
          have o11O2 : W11.cell? ⟨go, 2, none⟩ = some (.int .i64 o.f2) := (blk_cell HO11.out 2).trans rfl
          have o11O3 : W11.cell? ⟨go, 3, none⟩ = some (.int .i64 o.f3) := (blk_cell HO11.out 3).trans rfl
          have o11O4 : W11.cell? ⟨go, 4, none⟩ = some (.int .i64 o.f4) := (blk_cell HO11.out 4).trans rfl
          have o11O5 : W11.cell? ⟨go, 5, none⟩ = some (.string o.f5) := (blk_cell HO11.out 5).trans rfl
          have o11O6 : W11.cell? ⟨go, 6, none⟩ = some (.slice O6 o.f6.length e6) := (blk_cell HO11.out 6).trans rfl
          have o11O7 : W11.cell? ⟨go, 7, none⟩ = some (.bool o.f7) := (blk_cell HO11.out 7).trans rfl
          go_region_held3 (fun w' => w'.cell? ⟨go, 0, none⟩ = some (.int .i64 o.f0) ∧ w'.cell? ⟨go, 1, none⟩ = some (.int .i64 o.f1) ∧ w'.cell? ⟨go, 2, none⟩ = some (.int .i64 o.f2) ∧ w'.cell? ⟨go, 3, none⟩ = some (.int .i64 o.f3) ∧ w'.cell? ⟨go, 4, none⟩ = some (.int .i64 o.f4) ∧ w'.cell? ⟨go, 5, none⟩ = some (.string o.f5) ∧ w'.cell? ⟨go, 6, none⟩ = some (.slice O6 o.f6.length e6) ∧ w'.cell? ⟨go, 7, none⟩ = some (.bool o.f7))
            (first | exact ⟨o11O0, o11O1, o11O2, o11O3, o11O4, o11O5, o11O6, o11O7⟩ | exact ⟨o12O0, o12O1, o12O2, o12O3, o12O4, o12O5, o12O6, o12O7⟩ | exact ⟨o13O0, o13O1, o13O2, o13O3, o13O4, o13O5, o13O6, o13O7⟩ | exact ⟨o14O0, o14O1, o14O2, o14O3, o14O4, o14O5, o14O6, o14O7⟩ | go_keep)
            (first
            | (go_at_call 42
               refine (HVC.out _ (HG.out.on (by repeat (first | with_reducible exact HBw11.out | refine below_drew ?_)))).mono ?_
               rintro e W12 ⟨rfl, hb⟩
               have HT12 := zm (below_step (w := W11) (by repeat (first | with_reducible exact Below.refl _ _ | refine below_drew ?_)) hb)
               have HS12 := zm (HS11.out.below HT12.out)
               have HBw12 := zm HS12.out.bel
               have HF12 := zm (blk_below HF11.out HT12.out)
               have HB12 := zm (blk_below HB11.out HT12.out)
               have HO12 := zm (blk_below HO11.out HT12.out)
               have o12O0 : W12.cell? ⟨go, 0, none⟩ = some (.int .i64 o.f0) := (blk_cell HO12.out 0).trans rfl
               have o12O1 : W12.cell? ⟨go, 1, none⟩ = some (.int .i64 o.f1) := (blk_cell HO12.out 1).trans rfl
               have o12O2 : W12.cell? ⟨go, 2, none⟩ = some (.int .i64 o.f2) := (blk_cell HO12.out 2).trans rfl
               have o12O3 : W12.cell? ⟨go, 3, none⟩ = some (.int .i64 o.f3) := (blk_cell HO12.out 3).trans rfl
               have o12O4 : W12.cell? ⟨go, 4, none⟩ = some (.int .i64 o.f4) := (blk_cell HO12.out 4).trans rfl
               have o12O5 : W12.cell? ⟨go, 5, none⟩ = some (.string o.f5) := (blk_cell HO12.out 5).trans rfl
               have o12O6 : W12.cell? ⟨go, 6, none⟩ = some (.slice O6 o.f6.length e6) := (blk_cell HO12.out 6).trans rfl
               have o12O7 : W12.cell? ⟨go, 7, none⟩ = some (.bool o.f7) := (blk_cell HO12.out 7).trans rfl
               clear hb)
            | (go_at_call 42
               refine (HVW.out _ (HG.out.on (by repeat (first | with_reducible exact HBw11.out | refine below_drew ?_)))).mono ?_
               rintro e W12 ⟨rfl, hb⟩
               have HT12 := zm (below_step (w := W11) (by repeat (first | with_reducible exact Below.refl _ _ | refine below_drew ?_)) hb)
               have HS12 := zm (HS11.out.below HT12.out)
               have HBw12 := zm HS12.out.bel
               have HF12 := zm (blk_below HF11.out HT12.out)
               have HB12 := zm (blk_below HB11.out HT12.out)
               have HO12 := zm (blk_below HO11.out HT12.out)
               have o12O0 : W12.cell? ⟨go, 0, none⟩ = some (.int .i64 o.f0) := (blk_cell HO12.out 0).trans rfl
               have o12O1 : W12.cell? ⟨go, 1, none⟩ = some (.int .i64 o.f1) := (blk_cell HO12.out 1).trans rfl
               have o12O2 : W12.cell? ⟨go, 2, none⟩ = some (.int .i64 o.f2) := (blk_cell HO12.out 2).trans rfl
               have o12O3 : W12.cell? ⟨go, 3, none⟩ = some (.int .i64 o.f3) := (blk_cell HO12.out 3).trans rfl
               have o12O4 : W12.cell? ⟨go, 4, none⟩ = some (.int .i64 o.f4) := (blk_cell HO12.out 4).trans rfl
               have o12O5 : W12.cell? ⟨go, 5, none⟩ = some (.string o.f5) := (blk_cell HO12.out 5).trans rfl
               have o12O6 : W12.cell? ⟨go, 6, none⟩ = some (.slice O6 o.f6.length e6) := (blk_cell HO12.out 6).trans rfl
               have o12O7 : W12.cell? ⟨go, 7, none⟩ = some (.bool o.f7) := (blk_cell HO12.out 7).trans rfl
               clear hb)
            | (go_at_call 19
               refine (HOC.out _ (by repeat (first | with_reducible exact HBw12.out | refine below_drew ?_))).mono ?_
               rintro e W13 ⟨rfl, hb⟩
               have HT13 := zm (below_step (w := W12) (by repeat (first | with_reducible exact Below.refl _ _ | refine below_drew ?_)) hb)
               have HS13 := zm (HS12.out.below HT13.out)
               have HBw13 := zm HS13.out.bel
               have HF13 := zm (blk_below HF12.out HT13.out)
               have HB13 := zm (blk_below HB12.out HT13.out)
               have HO13 := zm (blk_below HO12.out HT13.out)
               have o13O0 : W13.cell? ⟨go, 0, none⟩ = some (.int .i64 o.f0) := (blk_cell HO13.out 0).trans rfl
               have o13O1 : W13.cell? ⟨go, 1, none⟩ = some (.int .i64 o.f1) := (blk_cell HO13.out 1).trans rfl
               have o13O2 : W13.cell? ⟨go, 2, none⟩ = some (.int .i64 o.f2) := (blk_cell HO13.out 2).trans rfl
               have o13O3 : W13.cell? ⟨go, 3, none⟩ = some (.int .i64 o.f3) := (blk_cell HO13.out 3).trans rfl
               have o13O4 : W13.cell? ⟨go, 4, none⟩ = some (.int .i64 o.f4) := (blk_cell HO13.out 4).trans rfl
               have o13O5 : W13.cell? ⟨go, 5, none⟩ = some (.string o.f5) := (blk_cell HO13.out 5).trans rfl
               have o13O6 : W13.cell? ⟨go, 6, none⟩ = some (.slice O6 o.f6.length e6) := (blk_cell HO13.out 6).trans rfl
               have o13O7 : W13.cell? ⟨go, 7, none⟩ = some (.bool o.f7) := (blk_cell HO13.out 7).trans rfl
               clear hb)
            | (go_at_call 29
               refine ((HS13.out.below (by repeat (first | with_reducible exact Below.refl _ _ | refine below_drew ?_))).write s2 ?c1).mono ?_
               case c1 => (have := HCL.out; omega)
               rintro e W14 ⟨rfl, hs, hk⟩
               have HF14 := zm ((HS13.out.below (by repeat (first | with_reducible exact Below.refl _ _ | refine below_drew ?_))).kept hk (by (with_reducible repeat (first | refine blk_drewN ?_ _ | refine blk_drew ?_)); exact HF13.out) (by decide) (by decide))
               have HB14 := zm ((HS13.out.below (by repeat (first | with_reducible exact Below.refl _ _ | refine below_drew ?_))).kept hk (by (with_reducible repeat (first | refine blk_drewN ?_ _ | refine blk_drew ?_)); exact HB13.out) (by decide) (by decide))
               have HO14 := zm ((HS13.out.below (by repeat (first | with_reducible exact Below.refl _ _ | refine below_drew ?_))).kept hk (by (with_reducible repeat (first | refine blk_drewN ?_ _ | refine blk_drew ?_)); exact HO13.out) (by decide) (by decide))
               have HS14 := zm hs
               have HBw14 := zm HS14.out.bel
               have o14O0 : W14.cell? ⟨go, 0, none⟩ = some (.int .i64 o.f0) := (blk_cell HO14.out 0).trans rfl
               have o14O1 : W14.cell? ⟨go, 1, none⟩ = some (.int .i64 o.f1) := (blk_cell HO14.out 1).trans rfl
               have o14O2 : W14.cell? ⟨go, 2, none⟩ = some (.int .i64 o.f2) := (blk_cell HO14.out 2).trans rfl
               have o14O3 : W14.cell? ⟨go, 3, none⟩ = some (.int .i64 o.f3) := (blk_cell HO14.out 3).trans rfl
               have o14O4 : W14.cell? ⟨go, 4, none⟩ = some (.int .i64 o.f4) := (blk_cell HO14.out 4).trans rfl
               have o14O5 : W14.cell? ⟨go, 5, none⟩ = some (.string o.f5) := (blk_cell HO14.out 5).trans rfl
               have o14O6 : W14.cell? ⟨go, 6, none⟩ = some (.slice O6 o.f6.length e6) := (blk_cell HO14.out 6).trans rfl
               have o14O7 : W14.cell? ⟨go, 7, none⟩ = some (.bool o.f7) := (blk_cell HO14.out 7).trans rfl
               clear hs hk))
          clear hs2_
          go_wp2
          refine ⟨⟨j + 1, by go_num, by omega, ⟨by rw [HNX.out]; exact HS14.out, HF14.out, HB14.out⟩⟩, by simp [intOf]; omega⟩
        · have hje : j = B.f1.length := by omega
          have hfull : B.f1.take j = B.f1 := List.take_of_length_le (by omega)
          have hge : ¬ ((j : Int) < (B.f1.length : Int)) := by omega
          have HQS := zm (show FS w0 b (pre ++ bl s1 ++ opsL n1 B.f1) wr from by have := HQ.out.1; rw [hfull] at this; exact this)
          have HF9 := zm HQ.out.2.1
          have HBw9 := zm HQ.out.1.bel
          have ob2 : wr.cell? ⟨gb, 2, none⟩ = some (.int .i64 B.f2.f0) := (blk_cell HQ.out.2.2 2).trans rfl
          have ob3 : wr.cell? ⟨gb, 3, none⟩ = some (.int .i64 B.f2.f1) := (blk_cell HQ.out.2.2 3).trans rfl
          have ob4 : wr.cell? ⟨gb, 4, none⟩ = some (.int .i64 B.f2.f2) := (blk_cell HQ.out.2.2 4).trans rfl
          have ob5 : wr.cell? ⟨gb, 5, none⟩ = some (.int .i64 B.f2.f3) := (blk_cell HQ.out.2.2 5).trans rfl
          have ob6 : wr.cell? ⟨gb, 6, none⟩ = some (.slice B6 B.f2.f4.length d6) := (blk_cell HQ.out.2.2 6).trans rfl
          have ob7 : wr.cell? ⟨gb, 7, none⟩ = some (.slice B7 B.f2.f5.length d7) := (blk_cell HQ.out.2.2 7).trans rfl
          have hs3_ := HS3_.out
          clear hfull
          go_wp2_with (first
            | (go_at_call 55; (with_reducible refine (HEC.out _ HBw9.out).mono ?_); rintro e W15 ⟨rfl, hb⟩; have HS15 := zm (HQS.out.below hb); have HF15 := zm (blk_below HF9.out hb); clear hb)
            | (go_at_call 29; (with_reducible refine (HS15.out.write s3 ?c1).mono ?_); (case c1 => (have := HPRL.out; rw [hn1] at this; rw [List.length_append, List.length_append, bl_len]; omega)); rintro e W16 ⟨rfl, hs, hk⟩; have HF16 := zm (HS15.out.kept hk HF15.out (by decide) (by decide)); have HS16 := zm hs; clear hs hk; clear hs3_))
          refine ⟨⟨k + 1, by go_num, by omega, ⟨?_, HF16.out⟩⟩, by simp [intOf]; omega⟩
          rw [HNEXT.out, hn1]
          have := HS16.out
          simp only [List.append_assoc] at this ⊢
          exact this
    · have hke : k = l.length := by omega
      have hfull : l.take k = l := List.take_of_length_le (by omega)
      have hge : ¬ ((k : Int) < (l.length : Int)) := by omega
      have HF := zm hfull
      clear hfull
      go_wp2
      go_end0
      refine ⟨rfl, ?_⟩
      have := HR.out.1
      rw [HF.out, List.append_assoc] at this
      exact this


/-! ### show_Func: function 17 -/
instance decOpOk (o : S24) : Decidable (opOk o) := by unfold opOk inI64; infer_instance
instance decEndOk (o : S57) : Decidable (endOk o) := by unfold endOk inI64; infer_instance
instance decBlockOk (o : S59) : Decidable (blockOk o) := by unfold blockOk inI64; infer_instance
instance decFunOk (o : S44) : Decidable (funOk o) := by unfold funOk inI64; infer_instance
instance decSigOk (o : S52) : Decidable (sigOk o) := by unfold sigOk inI64; infer_instance
instance decClsOk (o : S54) : Decidable (clsOk o) := by unfold clsOk inI64; infer_instance
def show_Func.f (a0_0 : Int) (l0_1 : List (S59)) : Option ByteArray :=
 if funOk ⟨a0_0, l0_1⟩ ∧ (funL ⟨a0_0, l0_1⟩).length ≤ 140737488355328 then some ⟨(funL ⟨a0_0, l0_1⟩).toArray⟩ else none
set_option maxHeartbeats 4000000 in
set_option maxRecDepth 100000 in
theorem show_Func.calls (a0_0 : Int) (A0_1 : Option Addr) (c0_1 : Nat) (l0_1 : List (S59)) (r : ByteArray) (w : World) (hr0_1 : Kd.C k59 w A0_1 l0_1.length l0_1) (hc0_1 : l0_1.length ≤ c0_1) (h : show_Func.f a0_0 l0_1 = some r) (hG : Door.Laid w) :
  Calls Tryd.prog 17 #[.agg #[.int .i64 a0_0, .slice A0_1 l0_1.length c0_1]] w fun e w' => e = .returned (.string r) ∧ Below w.heap.size w w' := by
 unfold show_Func.f at h
 split at h
 rotate_left
 ·cases h
 rename_i hok
 obtain ⟨hok, hlen⟩ := hok
 obtain rfl := Option.some.inj h
 obtain ⟨W1, hW1⟩ : ∃ W1, w.alloc (.cells #[.int .i64 a0_0, .slice A0_1 l0_1.length c0_1] 44) = W1 := ⟨_, rfl⟩
 obtain ⟨W2, hW2⟩ : ∃ W2, W1.alloc (.cells #[.pointer none, .slice none 0 0] 66) = W2 := ⟨_, rfl⟩
 have hb1 : Below w.heap.size w W1 := by rw [← hW1]; exact below_alloc (Below.refl _ _) _
 have hb2 : Below W1.heap.size W1 W2 := by rw [← hW2]; exact below_alloc (Below.refl _ _) _
 have hB1 : W1.heap[w.heap.size]? = some (.cells #[.int .i64 a0_0, .slice A0_1 l0_1.length c0_1] 44 (0, 0)) := by rw [← hW1]; exact heap_alloc_new w _
 have hB2 := blk_below hB1 hb2
 have hbl : Lib.IsBuilder 66 5 W1.heap.size W1.heap.size (Lib.byteCells []) W2 := by rw [← hW2]; exact Lib.fresh_isBuilder 66 5 W1
 have HFS := zm (FS.mk (w0 := W1) (b := W1.heap.size) (bs := []) (X := W2) hb2 hbl)
 have HLEN := zm hlen
 have HOK := zm hok
 have HB1 := zm hb1
 have HC := zm (Kd.C_below hr0_1 hb1)
 have HG := zm (hG.on hb1)
 have o0 : W2.cell? ⟨w.heap.size, 0, none⟩ = some (.int .i64 a0_0) := (blk_cell hB2 0).trans rfl
 have o1 : W2.cell? ⟨w.heap.size, 1, none⟩ = some (.slice A0_1 l0_1.length c0_1) := (blk_cell hB2 1).trans rfl
 clear hb1 hb2 hB1 hB2 hbl hr0_1 hG h hlen hok
 go_enter Tryd.func17, Tryd.ntmps17
 go_wp2_with (first
  | (go_at_call 33; (with_reducible refine (show_fun.calls W1.heap.size [] a0_0 A0_1 c0_1 l0_1 W1 _ HFS.out HC.out hc0_1 HOK.out (by simpa using HLEN.out) HG.out).mono ?_); rintro e W3 ⟨rfl, hs⟩; have HS3 := zm hs; clear hs)
  | (go_at_call 34; (with_reducible refine (Tryd.Builder_String_any W1.heap.size W1.heap.size ([] ++ funL ⟨a0_0, l0_1⟩) _ HS3.out.bld HS3.out.bel.size).mono ?_); rintro e W4 ⟨rfl, hb4⟩; have HB4 := zm (HS3.out.bel.trans hb4); clear hb4))
 go_ret
 exact ⟨rfl, below_step HB1.out HB4.out⟩

end Go.Proofs.YtojmepkhbebllaaDoor.PShowProgs
