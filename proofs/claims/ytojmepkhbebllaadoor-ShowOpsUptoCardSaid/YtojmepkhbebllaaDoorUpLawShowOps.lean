/- The card of ShowOps in its second form, over the plain law in YtojmepkhbebllaaDoorUpShowOps. -/
-- written by wip/row3.py: the row of the law hallmarklaw06_ShowOps
import Derived.Test.YtojmepkhbebllaaDoorRows
import Derived.Test.YtojmepkhbebllaaDoorPShowOpsx8
import Derived.Test.YtojmepkhbebllaaDoorUpShowOps
import Derived.Test.YtojmepkhbebllaaDoorOpens
import Derived.Test.YtojmepkhbebllaaDoorLaidShowOps
import Derived.Test.YtojmepkhbebllaaDoorTie
import Derived.Test.YtojmepkhbebllaaDoorCards
import Derived.LaidMore
import Derived.Stop.Joined
import Derived.SevenTiedAt
import Derived.LaidHandle
import Derived.ChangeSame
import Derived.WalkKit
import Derived.ProofKit
import Derived.OpenShut
import Derived.ShutString
import Derived.ChangeOld
import Derived.Below
import Derived.SizedLaws
import Derived.JoinedCond
import Derived.Deep.CondSized
namespace Go.Proofs.YtojmepkhbebllaaDoor.showOps
open Go.ChangeShapes Go.WideShapes Go.ChangeAt Go.RowKit Opens PShowOps Go.Proofs.YtojmepkhbebllaaDoorW.PrintWords
set_option linter.unusedVariables false
theorem len_eq (s : ByteArray) : s.data.toList.length = s.size := by rw [Array.length_toList]; rfl
section
variable {H : Type} {enc : TypeId × Value → H}
/-- The wrap for a row with a condition of its own AND listed tables. -/
theorem ret_cond_and {a : Assume} {C : Checked} {os : Os} {f : FuncId} {fn : Func} {s : OpenSpec} {k : (H : Type) → List (DataW H) → Bool} (hk : s.cond = some k) {F : Stop.Interp} {conds : List PathCond} {apart fresh handsOn again : Bool} {X : World → Array Value → Prop}
    (hX : ∀ (w w' : World) (args : Array Value), w.heap = w'.heap → X w args → X w' args)
    (own : ownKnob C.prog.godebug = none) (started : os.Started) (noInit : C.prog.inits.idxOf? f = none) (hfn : C.prog.funcs[f]? = some fn)
    (witness : ∃ (w : World) (tape : Tape) (i : Input), w.os = os ∧ (w.forCall tape i).Shaped C.prog ∧ i.vars = [] ∧ Input.okWide C.prog (w.forCall tape i) .any w.heap.size f i ∧
      ((s.pre enc C.prog fn conds apart (w.forCall tape i).memory i.args ∧ X (w.forCall tape i).memory i.args) ∧ sizedMet enc C.prog fn s apart (w.forCall tape i).memory i.args) ∧ a.holds C.prog (lone (Frame.enter C.prog f i.args .normal) [] (w.forCall tape i)))
    (contract : ∀ (W : World) (base : Nat) (args : Array Value) (ds gs : List (DataW H)) (before : List MemPlace),
      (∀ (j : Nat) t v, fn.params[j]? = some t → args[j]? = some v → Value.okWide C.prog W .any base t v) →
      DataW.Whole enc C.prog fn.params.toList s.vars apart W args.toList ds gs before →
      conds.all (PathCond.test C.prog ⟨fn.params.toList, ds, s.bare.plain.varTypes C.prog, gs⟩) = true → k H (ds ++ gs) = true →
      (DataW.weightsEach C.prog (fn.params.toList ++ s.bare.plain.varTypes C.prog) (ds ++ gs)).all (· ≤ reachBytes) = true → X W args →
      a.holds C.prog (lone (Frame.enter C.prog f args .normal) [] W) →
      Calls C.prog f args W fun e W' => ∃ v, e = .returned v ∧ (s.at F).post enc C.prog fn apart fresh handsOn again W args v W') :
    ReturnsInHanded a C os f .any (fun w args => (s.pre enc C.prog fn conds apart w args ∧ X w args) ∧ sizedMet enc C.prog fn s apart w args) ((s.at F).post enc C.prog fn apart fresh handsOn again) := by
  refine returnsInHanded_of_calls own started noInit witness ?_
  intro w tape i _ _ _ hok hpre hholds
  obtain ⟨_, _, _, fn', hfn', _, _, _, _, hval⟩ := hok
  have e : fn' = fn := Option.some.inj (hfn'.symm.trans hfn)
  subst e
  obtain ⟨⟨h1, hx⟩, hz⟩ := hpre
  obtain ⟨ds, gs, before, hw, hc, hkk⟩ := (OpenSpec.pre_some hk conds apart _ _).1 h1
  have hw' := DataW.Whole.of_heap (w' := w.forCall tape i) (by rfl) hw
  refine (contract (w.forCall tape i) w.heap.size i.args ds gs before hval hw' hc hkk (hz.weights hw) (hX _ _ _ (by rfl) hx) hholds).mono fun e W' ⟨v, he, hp⟩ => ?_
  subst he
  exact ChangeSpec.post_blind hp
theorem bulk_mem {d : DataW H} : ∀ {ds : List (DataW H)}, d ∈ ds → Rows.uptoBulk d ≤ Rows.uptoBulkAll ds
  | c :: ds, h => by
    rw [Rows.uptoBulkAll]
    rcases List.mem_cons.1 h with rfl | h
    · omega
    · have := bulk_mem h; omega
theorem bulk_pos (d : DataW H) : 1 ≤ Rows.uptoBulk d := by
  cases d with
  | lit l => cases l <;> simp [Rows.uptoBulk]
  | _ => simp [Rows.uptoBulk]
theorem bulk_len : ∀ (ds : List (DataW H)), ds.length ≤ Rows.uptoBulkAll ds
  | [] => by simp
  | d :: ds => by
    have h1 := bulk_pos d
    have h2 := bulk_len ds
    rw [Rows.uptoBulkAll, List.length_cons]; omega
variable {P : Program} {w : World} {base : Nat} {spare : Nat → Bool} {held : Bool}
theorem bulk_struct {t : TypeId} {fs : Array Field} {n : Nat} {cs : List Value} {x : DataW H × List MemPlace} (ht : P.underlying t = some (.struct fs)) (h : DataW.trod enc P w base spare held n t cs = some x) (i : Nat) (f : Field) (hf : fs[i]? = some f) :
    ∃ m y, DataW.trod enc P w base spare held m f.type ((cs.drop f.offset).take (P.cellsOf f.type)) = some y ∧ Rows.uptoBulk y.1 ≤ Rows.uptoBulk x.1 := by
  obtain ⟨xs, m, _, rfl, hl, hxl, hx⟩ := DataW.trod_struct ht h
  have hi : i < fs.size := (Array.getElem?_eq_some_iff.1 hf).1
  have h1 := hx i f hf
  have hi2 : i < xs.length := by rw [hxl]; exact hi
  rw [List.getElem?_eq_getElem hi2] at h1
  refine ⟨m, xs[i], h1, ?_⟩
  have := bulk_mem (List.mem_map.2 ⟨xs[i], List.getElem_mem hi2, rfl⟩ : xs[i].1 ∈ xs.map (·.1))
  show _ ≤ Rows.uptoBulk (DataW.agg (xs.map (·.1)))
  rw [Rows.uptoBulk]; omega
theorem bulk_str {t : TypeId} {n : Nat} {s : ByteArray} {cs : List Value} {x : DataW H × List MemPlace} (ht : P.underlying t = some .string) (hcs : cs = [.string s]) (h : DataW.trod enc P w base spare held n t cs = some x) : s.size ≤ Rows.uptoBulk x.1 := by
  obtain ⟨a, ha, hx, _⟩ := DataW.trod_string ht h
  subst hx
  rw [hcs] at ha
  have e : s = a := by simpa using ha
  subst e
  show _ ≤ Rows.uptoBulk (DataW.lit (.string _))
  rw [Rows.uptoBulk, len_eq]; omega
theorem bulk_slc {t e : TypeId} {n : Nat} {A : Option Addr} {len cap : Nat} {cs : List Value} {x : DataW H × List MemPlace} (ht : P.underlying t = some (.slice e)) (hcs : cs = [.slice A len cap]) (h : DataW.trod enc P w base spare held n t cs = some x) : len ≤ Rows.uptoBulk x.1 := by
  rcases DataW.trod_slice ht h with ⟨hc, rfl⟩ | ⟨a, len', cap', elems, rest, m, _, hc, rfl, hb, hl, hm, hlen, hel, _, _⟩
  · rw [hcs] at hc
    simp at hc
    omega
  · rw [hcs] at hc
    simp at hc
    obtain ⟨_, rfl, _⟩ := hc
    have := bulk_len (elems.map (·.1))
    rw [List.length_map] at this
    show _ ≤ Rows.uptoBulk (DataW.slice (elems.map (·.1)) (rest.map (·.1)))
    rw [Rows.uptoBulk]; omega
end
theorem own : ownKnob Tryd.prog.godebug = none := by kernel_rfl
theorem laidOut : laidOutB Tryd.prog = true := by kernel_rfl
theorem door_met (os : Os) (args : Array Value) : laidMetH Tryd.prog Rows.showOpsUptoRow.laid ((World.doorLaid Tryd.prog 44 os).forCall (fun _ _ => 0) ⟨#[], args, []⟩).memory :=
  laidMetH_of_parts3 (fuel := 8) (laidMet_of_run' 8 (by kernel_rfl) (by kernel_rfl)) (by kernel_rfl) (by kernel_rfl)
set_option maxRecDepth 100000 in
theorem lifted (os : Os) (started : os.Started) (H : Type) (enc : TypeId × Value → H) (F : Stop.Interp) :
    ReturnsInHanded {} Tryd.checked os 3 .any (fun w args => ((Rows.OpenSpec.upto Rows.showOpsSpec).pre enc Tryd.prog Tryd.f3 [] false w args ∧ laidMetH Tryd.prog Rows.showOpsUptoRow.laid w) ∧ sizedMet enc Tryd.prog Tryd.f3 (Rows.OpenSpec.upto Rows.showOpsSpec) false w args) (((Rows.OpenSpec.upto Rows.showOpsSpec).at F).post enc Tryd.prog Tryd.f3 false true false false) := by
  have hok : Input.okWideB Tryd.checked.prog ((World.doorLaid Tryd.prog 44 os).forCall (fun _ _ => 0) ⟨#[], #[.agg #[.int .i64 0, .int .i64 0, .int .i64 0, .int .i64 0, .int .i64 0, .string ByteArray.empty, .slice none 0 0, .bool false]], []⟩) 3 ⟨#[], #[.agg #[.int .i64 0, .int .i64 0, .int .i64 0, .int .i64 0, .int .i64 0, .string ByteArray.empty, .slice none 0 0, .bool false]], []⟩ = true := by kernel_rfl
  have hxw : DataW.whole enc Tryd.checked.prog ((World.doorLaid Tryd.prog 44 os).forCall (fun _ _ => 0) ⟨#[], #[.agg #[.int .i64 0, .int .i64 0, .int .i64 0, .int .i64 0, .int .i64 0, .string ByteArray.empty, .slice none 0 0, .bool false]], []⟩).memory Tryd.f3.params.toList (Rows.OpenSpec.upto Rows.showOpsSpec).vars false (#[.agg #[.int .i64 0, .int .i64 0, .int .i64 0, .int .i64 0, .int .i64 0, .string ByteArray.empty, .slice none 0 0, .bool false]] : Array Value).toList 8 = some ([.agg [.lit (.int .i64 0), .lit (.int .i64 0), .lit (.int .i64 0), .lit (.int .i64 0), .lit (.int .i64 0), .lit (.string []), .nil, .lit (.bool false)]], [], []) := by kernel_rfl
  have hszw : Rows.showOpsSpec.sizedB enc Tryd.checked.prog Tryd.f3 false ((World.doorLaid Tryd.prog 44 os).forCall (fun _ _ => 0) ⟨#[], #[.agg #[.int .i64 0, .int .i64 0, .int .i64 0, .int .i64 0, .int .i64 0, .string ByteArray.empty, .slice none 0 0, .bool false]], []⟩).memory #[.agg #[.int .i64 0, .int .i64 0, .int .i64 0, .int .i64 0, .int .i64 0, .string ByteArray.empty, .slice none 0 0, .bool false]] 8 = true := by kernel_rfl
  refine ret_cond_and (C := Tryd.checked) (s := (Rows.OpenSpec.upto Rows.showOpsSpec)) (k := Rows.uptoSmall) rfl (X := fun w _ => laidMetH Tryd.prog Rows.showOpsUptoRow.laid w) (fun _ _ _ hh h => h.of_heap hh) own started (by kernel_rfl) Tryd.func3
    ⟨World.doorLaid Tryd.prog 44 os, fun _ _ => 0, ⟨#[], #[.agg #[.int .i64 0, .int .i64 0, .int .i64 0, .int .i64 0, .int .i64 0, .string ByteArray.empty, .slice none 0 0, .bool false]], []⟩, rfl, World.shaped_of_RefB (by kernel_rfl) (by kernel_rfl), (Input.okWide_of_okWideB (base := 0) hok).1, (Input.okWide_of_okWideB hok).2,
      ⟨⟨(OpenSpec.pre_some (k := Rows.uptoSmall) rfl [] false _ _).2 ⟨_, _, _, DataW.Whole_of_whole hxw, rfl, by kernel_rfl⟩, door_met os _⟩, sizedMet_of_sizedB (s := Rows.showOpsSpec) (fuel := 8) hszw⟩, by
      simp only [Assume.holds]
      exact ⟨by simp, by simp, (fun h => by cases h), by simp, by simp⟩⟩ ?_
  intro W base args ds gs before hval0 hW hcnd hk hsz0 hL _
  rw [MakeChecks.laidMetH_plain _ _ _ (by kernel_rfl)] at hL
  have hG := Door.laid_of hL
  clear hL
  have hsz : (DataW.weightsEach Tryd.prog (Tryd.f3.params.toList ++ Rows.showOpsSpec.plain.varTypes Tryd.prog) (ds ++ gs)).all (· ≤ reachBytes) = true := hsz0
  have hval : ∀ (j : Nat) t v, Tryd.f3.params[j]? = some t → args[j]? = some v → Value.okWide Tryd.prog W .any base t v := hval0
  have hW' := hW
  obtain ⟨p, q, hA0, hV, rfl, hfz, hnd⟩ := hW
  have hA : DataW.TrodAll enc Tryd.prog W 0 (fun _ => true) true Tryd.f3.params.toList args.toList ds p := hA0
  rw [Tryd.params3] at hA hval hsz
  obtain ⟨v0, vs0, d0, ds0, p0, q0, hargs, rfl, rfl, h0, r0⟩ := trodAll_cons hA
  obtain ⟨rfl, rfl, rfl⟩ := trodAll_nil r0
  obtain rfl : args = #[v0] := by cases args; simp_all
  obtain ⟨rfl, rfl⟩ := trodVars_none hV
  have k0 := h0
  have lt0 : ∀ x ∈ p0, x.block < W.heap.size := by obtain ⟨m, hm⟩ := k0; exact DataW.trod_lt m _ _ _ hm
  obtain ⟨cs0, rfl⟩ := okWide_agg Tryd.underlying24 (hval 0 24 v0 rfl rfl)
  obtain ⟨⟨a0_0, a0_1, a0_2, a0_3, a0_4, a0_5, l0_6, a0_7⟩, hK0, hV0⟩ := opens_arg (V := _) (opens_struct Tryd.underlying24 (by kernel_rfl) (fields_cons rfl (opens_int Tryd.underlying3 (by kernel_rfl)) (fields_cons rfl (opens_int Tryd.underlying3 (by kernel_rfl)) (fields_cons rfl (opens_int Tryd.underlying3 (by kernel_rfl)) (fields_cons rfl (opens_int Tryd.underlying3 (by kernel_rfl)) (fields_cons rfl (opens_int Tryd.underlying2 (by kernel_rfl)) (fields_cons rfl (opens_string Tryd.underlying9 (by kernel_rfl)) (fields_cons rfl (opens_slice Tryd.underlying22 (by kernel_rfl) (opens_int Tryd.underlying3 (by kernel_rfl)) (B := 8) (by kernel_rfl)) (fields_one rfl (opens_bool Tryd.underlying4 (by kernel_rfl))))))))))) hsz (j := 0) (t := 24) rfl rfl h0
  obtain ⟨hV0_0, hV0_1, hV0_2, hV0_3, hV0_4, hV0_5, hV0_6, hV0_7⟩ := hV0
  obtain ⟨x0_0, y0_0, e0_0, K0_0, R0_0⟩ := hK0
  obtain ⟨x0_1, y0_1, e0_1, K0_1, R0_1⟩ := R0_0
  obtain ⟨x0_2, y0_2, e0_2, K0_2, R0_2⟩ := R0_1
  obtain ⟨x0_3, y0_3, e0_3, K0_3, R0_3⟩ := R0_2
  obtain ⟨x0_4, y0_4, e0_4, K0_4, R0_4⟩ := R0_3
  obtain ⟨x0_5, y0_5, e0_5, K0_5, R0_5⟩ := R0_4
  obtain ⟨x0_6, y0_6, e0_6, K0_6, R0_6⟩ := R0_5
  obtain rfl : x0_0 = [.int .i64 a0_0] := K0_0
  obtain rfl : x0_1 = [.int .i64 a0_1] := K0_1
  obtain rfl : x0_2 = [.int .i64 a0_2] := K0_2
  obtain rfl : x0_3 = [.int .i64 a0_3] := K0_3
  obtain rfl : x0_4 = [.int .i64 a0_4] := K0_4
  obtain rfl : x0_5 = [.string a0_5] := K0_5
  obtain ⟨A0_6, c0_6, rfl, hc0_6, hr0_6⟩ := K0_6
  obtain rfl : y0_6 = [.bool a0_7] := R0_6
  obtain rfl : cs0 = #[.int .i64 a0_0, .int .i64 a0_1, .int .i64 a0_2, .int .i64 a0_3, .int .i64 a0_4, .string a0_5, .slice A0_6 l0_6.length c0_6, .bool a0_7] := by
    apply Array.toList_inj.1
    have e_ : (Value.agg cs0).cells.toList = _ := e0_0
    rw [e0_1, e0_2, e0_3, e0_4, e0_5, e0_6] at e_
    exact e_
  clear hA0 hval0 hsz0 hsz
  have hb : Rows.uptoBulkAll _ ≤ 1048576 := of_decide_eq_true hk
  simp only [List.append_nil, Rows.uptoBulkAll] at hb
  have k0_ := k0
  obtain ⟨n_, hn_⟩ := k0_
  obtain ⟨m5, y5, hy5, hb5⟩ := bulk_struct Tryd.underlying24 hn_ 5 _ rfl
  obtain ⟨m6, y6, hy6, hb6⟩ := bulk_struct Tryd.underlying24 hn_ 6 _ rfl
  have q5 : a0_5.size ≤ Rows.uptoBulk y5.1 := bulk_str Tryd.underlying9 rfl hy5
  have q6 : l0_6.length ≤ Rows.uptoBulk y6.1 := bulk_slc (A := A0_6) (cap := c0_6) Tryd.underlying22 rfl hy6
  simp only at hb5 hb6
  obtain ⟨k, hf⟩ := Pure.upto a0_0 a0_1 a0_2 a0_3 a0_4 a0_5 l0_6 a0_7 hV0_0 hV0_1 hV0_2 hV0_3 hV0_4 hV0_6.2.2 (by omega) (by omega)
  refine (hallmarklaw06_ShowOps.calls k a0_0 a0_1 a0_2 a0_3 a0_4 a0_5 A0_6 c0_6 l0_6 a0_7 true W hr0_6 hc0_6 hf hG).mono fun e W' ⟨he, bel⟩ => ?_
  subst he
  exact ⟨_, rfl, _, _, _, [], _, [], hW', trodAll_mk1 (shut_bool Tryd.underlying4 _), (trodAll_cons_mk (Below.trod laidOut (by kernel_rfl) (of_decide_eq_true (by kernel_rfl)) k0 bel lt0) trodAll_mk0), rfl, bel.frame _, fun h => by cases h⟩
theorem over : Rows.showOpsUptoRow.holds Tryd.pinned (Rows.OpenSpec.upto Rows.showOpsSpec) :=
  OpenClaim.holds_of_cond 3 Tryd.f3 rfl rfl rfl rfl rfl rfl rfl ⟨rfl, rfl, rfl, rfl, rfl⟩ rfl rfl rfl rfl rfl (by kernel_rfl) Tryd.func3 (by kernel_rfl)
    (of_decide_eq_true (by kernel_rfl)) (by unfold Func.isWrapper; first | (rw [if_pos (by decide +kernel)]; kernel_rfl) | (rw [if_neg (by decide +kernel)]; exact ⟨rfl, rfl⟩))
    (fun os started H enc _ F => lifted os started H enc F)
theorem proved : Rows.ShowOpsUptoCardSaid :=
  Claim7.holds_tied_plain_at .later [] [.data, .data, .data, .data, .widerDeep, .widerDeep] true (true, "c65a91cac27f8eb8109a366072a2eb0cf851acfcf36b3851ec61ae11b2ca1df3") false
    over (fun _ h => by cases h) (by kernel_rfl) (fun _ h => by cases h) showOpsUpto_row_tie rfl ⟨rfl, rfl⟩ (by kernel_rfl) rfl
    (fun f fn hf hfn => by
      obtain rfl : f = 3 := Option.some.inj ((show Tryd.prog.funcNamed "hallmark/hallmarklaw06.ShowOps" = some 3 by kernel_rfl).symm.trans hf) |>.symm
      obtain rfl : fn = Tryd.f3 := (Option.some.inj (Tryd.func3.symm.trans hfn)).symm
      exact ⟨by kernel_rfl, fun j t ht => by
        rw [Tryd.params3] at ht
        have hm : t ∈ [24] := by simpa using Array.mem_of_getElem? ht
        have hall : ([24].all fun u => !Tryd.prog.wantsStandIn u) = true := by kernel_rfl
        exact (show Tryd.prog.wantsStandIn t = false by simpa using List.all_eq_true.1 hall t hm)⟩)
    (by kernel_rfl)
#print axioms proved
end Go.Proofs.YtojmepkhbebllaaDoor.showOps
namespace Go.Proofs.YtojmepkhbebllaaDoor
/-- The card, under a short name, for the claim. -/
theorem showOpsUpto_holds : Rows.ShowOpsUptoCardSaid := showOps.proved
end Go.Proofs.YtojmepkhbebllaaDoor
