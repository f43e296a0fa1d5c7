-- written by wip/print2.py
import Derived.Test.YtemclhndmcjmmaaPDomEdgesx0
import Derived.Test.YtemclhndmcjmmaaPDomEdgesx1
import Derived.Test.YtemclhndmcjmmaaPDomEdgesx3
import Derived.Test.YtemclhndmcjmmaaPDomEdgesx4
namespace Go.Proofs.Ytemclhndmcjmmaa.PDomEdges
open Go.RowKit Go.Proofs.YtemclhndmcjmmaaW.PrintWords Go.Proofs.YtemclhndmcjmmaaW.PrintLast Go.Proofs.YtemclhndmcjmmaaW.PrintMore
attribute [local go_sem] max2_int min2_int max_two min_two max_three min_three max_four min_four   -- for this text's walks alone
set_option linter.unusedVariables false
set_option linter.unusedSimpArgs false

/-! ### dom_Loops: function 15 -/
open Iter
set_option linter.unusedVariables false
set_option linter.unusedSimpArgs false
/-- the first place from i on at which p holds; -1: there is none -/
def idxF (p : Int → Bool) : List Int → Nat → Int
  | [], _ => -1
  | x :: l, i => if p x = true then (i : Int) else idxF p l (i + 1)
theorem idxF_any (p : Int → Bool) : ∀ (l : List Int) (i : Nat), decide (0 ≤ idxF p l i) = l.any p
  | [], i => rfl
  | x :: l, i => by
    rw [idxF, List.any_cons]
    cases h : p x
    · simp only [Bool.false_eq_true, if_false, Bool.false_or]; exact idxF_any p l (i + 1)
    · simp
set_option maxHeartbeats 8000000 in
set_option maxRecDepth 100000 in
theorem indexFunc_calls (gf : Nat) (lb : Array Value) (eg : ∀ args w, (callFunc gf args).run Try.prog w = .ok (.enter gf args) w) (p : Int → Bool) (A : Option Addr) (c : Nat) (l : List Int) (w : World) (hl : Kd.C (Kd.int .i64) w A l.length l)
    (hp : ∀ (nd : Nat) (x : Int), x ∈ l → Calls Try.prog gf (#[.int .i64 x] ++ lb) (w.drewN nd) fun e w' => e = .returned (.bool (p x)) ∧ Drawn0 (w.drewN nd) w') :
    Calls Try.prog 40 #[.slice A l.length c, .func (.func gf) #[] lb] w fun e w' => e = .returned (.int .i64 (idxF p l 0)) ∧ Drawn0 w w' := by
  have HL := Aside0.mk hl
  have HN := Aside0.mk (show l.length ≤ 9223372036854775807 from hl.2.1)
  have HP := Aside0.mk hp
  clear hl hp
  go_enter Try.func40, Try.ntmps40
  go_wp2
  go_loopg [5, 8] l.length (fun gk v5 v8 Y => ∃ (i : Nat), v8 = .int .i64 (i : Int) ∧ Aside0 (idxF p (l.drop i) i = idxF p l 0) ∧ Aside0 (gk + i = l.length) ∧ Drawn0 w Y)
  case atStart => exact ⟨0, rfl, ⟨by rw [List.drop_zero]⟩, ⟨by omega⟩, Drawn0.refl _⟩
  case round =>
    obtain ⟨i, rfl, HA, HK, ⟨nd, rfl⟩⟩ := hrel
    by_cases hi : i < l.length
    · have hi' : (i : Int) < (l.length : Int) := by omega
      have d1b := decide_eq_true hi'
      have d1n := decide_eq_true hi
      have hin := eq_true hi
      have H := HA.out
      have hrd : rd l (i : Int) = l[i] := by unfold rd; simp [hi]
      rw [List.drop_eq_getElem_cons hi, ← hrd, idxF] at H
      have hmem : rd l (i : Int) ∈ l := by rw [hrd]; exact List.getElem_mem hi
      obtain ⟨b, hb⟩ : ∃ b, rd l (i : Int) = b := ⟨_, rfl⟩
      obtain ⟨adl, el, hxl⟩ := Kd.at_int HL.out (i : Int) (by omega) hi'
      subst el
      rw [hb] at H hxl hmem
      rw [Int.toNat_natCast] at hxl
      clear hb hrd
      have HH := Aside0.mk hi
      have hcall := HP.out nd b hmem
      clear hi hi' hmem
      cases hq : p b with
      | true =>
        rw [hq] at hcall H
        rw [if_pos rfl] at H
        have H' := Aside0.mk H
        clear H hq
        go_wp2_with (go_at_fn gf; refine hcall.mono ?_; rintro e w' ⟨rfl, ⟨nd', rfl⟩⟩)
        go_ret
        exact ⟨by rw [← H'.out]; rfl, by first | exact ⟨⟨_, rfl⟩⟩ | exact Drawn0.step ⟨⟨_, rfl⟩⟩ _ | (refine ⟨⟨_, ?_⟩⟩; simp only [World.drewN_drewN, World.drew_drewN]; rfl)⟩
      | false =>
        rw [hq] at hcall H
        rw [if_neg (by simp)] at H
        have H' := Aside0.mk H
        clear H hq
        go_wp2_with (go_at_fn gf; refine hcall.mono ?_; rintro e w' ⟨rfl, ⟨nd', rfl⟩⟩)
        go_roundg (gk - 1)
        case measure => have h1 := HH.out; have h3 := HK.out; omega
        case rel =>
          have h1 := HH.out
          have h2 := HN.out
          have h3 := HK.out
          refine ⟨i + 1, ?_, H', ⟨by omega⟩, by first | exact ⟨⟨_, rfl⟩⟩ | exact Drawn0.step ⟨⟨_, rfl⟩⟩ _ | (refine ⟨⟨_, ?_⟩⟩; simp only [World.drewN_drewN, World.drew_drewN]; rfl)⟩
          rw [show wrap64 ((i : Int) + 1) = ((i + 1 : Nat) : Int) from by unfold wrap64; omega]
    · have d1b := decide_eq_false hi
      have H := HA.out
      rw [List.drop_of_length_le (by omega), idxF] at H
      have H' := Aside0.mk H
      clear H hi
      go_wp2
      go_ret
      exact ⟨by rw [← H'.out]; rfl, ⟨⟨_, rfl⟩⟩⟩
set_option maxHeartbeats 8000000 in
theorem containsFunc_calls (gf : Nat) (lb : Array Value) (eg : ∀ args w, (callFunc gf args).run Try.prog w = .ok (.enter gf args) w) (p : Int → Bool) (A : Option Addr) (c : Nat) (l : List Int) (w : World) (hl : Kd.C (Kd.int .i64) w A l.length l)
    (hp : ∀ (nd : Nat) (x : Int), x ∈ l → Calls Try.prog gf (#[.int .i64 x] ++ lb) (w.drewN nd) fun e w' => e = .returned (.bool (p x)) ∧ Drawn0 (w.drewN nd) w') :
    Calls Try.prog 29 #[.slice A l.length c, .func (.func gf) #[] lb] w fun e w' => e = .returned (.bool (l.any p)) ∧ Drawn0 w w' := by
  rw [← idxF_any p l 0]
  have HL := Aside0.mk hl
  have HN := Aside0.mk (show l.length ≤ 9223372036854775807 from hl.2.1)
  have HP := Aside0.mk hp
  clear hl hp
  go_enter Try.func29, Try.ntmps29
  go_wp2_with (go_at_call 40; refine (indexFunc_calls gf lb eg p A c l _ HL.out HP.out).mono ?_; rintro e w' ⟨rfl, ⟨nd, rfl⟩⟩)
  go_ret
  exact ⟨rfl, ⟨⟨_, rfl⟩⟩⟩
def body_l1 (k : Nat) (ab pl : List Int) (head : Int) : List Int → List Int → Option (List Int)
  | [], wt => some wt
  | b :: l, wt => (over_f k ab pl head b).bind (fun o => if o = true then (if wt.length < 1099511627776 then body_l1 k ab pl head l (wt ++ [b]) else none) else body_l1 k ab pl head l wt)
def body_l2 (pl : List Int) (ah : List (List Int)) : Nat → List Bool → List Int → Option (List Bool)
  | 0, _, _ => none
  | k + 1, ins, wt => if wt = [] then some ins else (if 0 ≤ rd wt ((wt.length : Int) - 1) ∧ rd wt ((wt.length : Int) - 1) < (ins.length : Int) ∧ rd wt ((wt.length : Int) - 1) < (pl.length : Int) ∧ rd wt ((wt.length : Int) - 1) < (ah.length : Int) then
      (if rdOf false ins (rd wt ((wt.length : Int) - 1)) = false ∧ rd pl (rd wt ((wt.length : Int) - 1)) ≥ 0 then (if wt.length + (rd_L1 ah (rd wt ((wt.length : Int) - 1))).length < 1099511627776 then body_l2 pl ah k (ins.set (rd wt ((wt.length : Int) - 1)).toNat true) (wt.take (wt.length - 1) ++ rd_L1 ah (rd wt ((wt.length : Int) - 1))) else none)
       else body_l2 pl ah k ins (wt.take (wt.length - 1))) else none)
/-- the numbers of those that are, from i on -/
def collect : List Bool → Nat → List Int
  | [], _ => []
  | x :: l, i => if x = true then (i : Int) :: collect l (i + 1) else collect l (i + 1)
def dom_body.f (k : Nat) (fb : List (S54)) (ab pl : List Int) (ah : List (List Int)) (head : Int) : Option (List Int) :=
  if 0 ≤ head ∧ head < (fb.length : Int) ∧ head < (ah.length : Int) ∧ fb.length ≤ 1099511627776 then (body_l1 k ab pl head (rd_L1 ah head) []).bind (fun wt => (body_l2 pl ah k ((List.replicate fb.length false).set head.toNat true) wt).map (fun ins => collect ins 0)) else none
theorem body_l1_mono (k : Nat) (ab pl : List Int) (head : Int) : ∀ l wt : List Int, LeO (body_l1 k ab pl head l wt) (body_l1 (k + 1) ab pl head l wt)
  | [], wt => LeO.refl _
  | b :: l, wt => by
    rw [body_l1, body_l1]
    exact LeO.bind (over_mono k ab pl head b) (fun o => LeO.ite (LeO.ite (body_l1_mono k ab pl head l _) (LeO.none _)) (body_l1_mono k ab pl head l _))
theorem body_l2_mono (pl : List Int) (ah : List (List Int)) : ∀ (k : Nat) (ins : List Bool) (wt : List Int), LeO (body_l2 pl ah k ins wt) (body_l2 pl ah (k + 1) ins wt) := by
  intro k
  induction k with
  | zero => intro ins wt; exact LeO.none _
  | succ k ih =>
    intro ins wt
    rw [body_l2, body_l2]
    exact LeO.ite (LeO.refl _) (LeO.ite (LeO.ite (LeO.ite (ih _ _) (LeO.none _)) (ih _ _)) (LeO.none _))
theorem dom_body.mono (k : Nat) (fb : List (S54)) (ab pl : List Int) (ah : List (List Int)) (head : Int) : LeO (dom_body.f k fb ab pl ah head) (dom_body.f (k + 1) fb ab pl ah head) :=
  LeO.ite (LeO.bind (body_l1_mono k ab pl head _ _) (fun wt => LeO.map _ (body_l2_mono pl ah k _ wt))) (LeO.none _)
theorem collect_len : ∀ (l : List Bool) (i : Nat), (collect l i).length ≤ l.length
  | [], i => Nat.le_refl _
  | x :: l, i => by
    have := collect_len l (i + 1)
    rw [collect]
    split <;> simp only [List.length_cons] <;> omega
/-- how things lie in body: which blocks are in (block gi), a row v of numbers of the call's own -/
structure BW (w : World) (n : Nat) (W : World) (gi : Nat) (ins : List Bool) (v : Value) (wt : List Int) : Prop where
  bel : Below w.heap.size w W
  rin : W.ownsRow w.heap.size 4 1 (.slice (some ⟨gi, 0, none⟩) n n) n (bools ins)
  rwt : Kd.R (Kd.int .i64) 3 W w.heap.size (fun k => k ≠ gi) v wt
section
variable {w : World} {n : Nat} {W : World} {gi : Nat} {ins : List Bool} {v : Value} {wt : List Int}
theorem BW.li (h : BW w n W gi ins v wt) : ins.length = n := by have := h.rin.1; simpa [bools] using this
theorem BW.gil (h : BW w n W gi ins v wt) : w.heap.size ≤ gi ∧ gi < W.heap.size := ⟨own_base h.rin gi rfl, own_lt h.rin gi rfl⟩
theorem BW.below {W' : World} (h : BW w n W gi ins v wt) (hb : Below W.heap.size W W') : BW w n W' gi ins v wt := ⟨below_step h.bel hb, pw_own_below h.rin hb, Kd.R_below h.rwt hb⟩
theorem BW.new {v' : Value} {wt' : List Int} {w1 : World} (h : BW w n W gi ins v wt) (hR : Kd.R (Kd.int .i64) 3 w1 w.heap.size (fun k => k ≠ gi) v' wt') (hb : Below w.heap.size w w1) (hg : W.grownBy w1 v.ownBlock) : BW w n w1 gi ins v' wt' :=
  ⟨hb, own_move h.rin (fun k hk => by cases hk; exact hg.block gi h.gil.2 (fun e => h.rwt.1 gi e.symm rfl)), hR⟩
theorem BW.ci (h : BW w n W gi ins v wt) (i : Int) (h0 : 0 ≤ i) (h1 : i < n) : W.cell? ⟨gi, i.toNat, none⟩ = some (.bool (rdOf false ins i)) ∧ W.frozen? ⟨gi, i.toNat, none⟩ = false := by
  have hl := h.li
  refine ⟨?_, h.rin.frozenAt i.toNat⟩
  rw [h.rin.cellAt i.toNat (by omega)]
  have : i.toNat < ins.length := by omega
  simp [bools, rdOf, List.getD_eq_getElem?_getD, List.getElem?_eq_getElem this]
theorem BW.setI (h : BW w n W gi ins v wt) (i : Nat) : BW w n (W.setCell ⟨gi, i, none⟩ (.bool true)) gi (ins.set i true) v wt := by
  obtain ⟨o1, o2⟩ := h.rin.stored i (.bool true)
  have he : (bools ins).set i (.bool true) = bools (ins.set i true) := by simp [bools, List.map_set]
  rw [he] at o1
  exact ⟨h.bel.setCell (p := ⟨gi, i, none⟩) h.gil.1 _, o1, Kd.R_far (p := ⟨gi, i, none⟩) h.rwt (fun k hk => hk) _⟩
theorem BW.fresh (h : BW w n W gi ins v wt) : BW w n W gi ins (.slice none 0 0) [] := ⟨h.bel, h.rin, Kd.R_nil _ _ _ _ _⟩
end
theorem BW.start (w : World) (o : Obj) (n : Nat) (hn : n ≤ 1099511627776) : BW w n ((w.alloc o).alloc (.cells (madeCells #[.bool false] n) 4)) (w.heap.size + 1) (List.replicate n false) (.slice none 0 0) [] := by
  refine ⟨below_alloc (below_alloc (Below.refl _ _) _) _, ?_, Kd.R_nil _ _ _ _ _⟩
  have := own_made_of (enc := Value.bool) (d := false) (w.alloc o) w.heap.size 4 n (by simp) (by omega)
  rw [World.size_alloc] at this
  exact this
set_option maxHeartbeats 8000000 in
set_option maxRecDepth 100000 in
theorem dom_body.calls (k : Nat) (a0 : Int) (A0 : Option Addr) (c0 : Nat) (fb : List (S54)) (g : Nat) (ab pl : List Int) (A : Option Addr) (c : Nat) (A' : Option Addr) (c' : Nat) (Ah : Option Addr) (ch : Nat) (ah : List (List Int)) (head : Int) (r : List Int) (w : World) (ht : TreeAt w g ab pl A c A' c') (hah : Kd.C (Kd.slice 3 (Kd.int .i64)) w Ah ah.length ah) (h : dom_body.f k fb ab pl ah head = some r) :
    Calls Try.prog 32 #[.agg #[.int .i64 a0, .slice A0 fb.length c0], .pointer (some ⟨g, 0, none⟩), .slice Ah ah.length ch, .int .i64 head] w fun e w' => ∃ v0_ : Value, e = .returned (v0_) ∧ Kd.R (Kd.int .i64) 3 w' w.heap.size (fun _ => True) v0_ r ∧ Below w.heap.size w w' := by
  unfold dom_body.f at h
  split at h
  rotate_left
  · cases h
  rename_i hb
  obtain ⟨h0, h1, h2, hn⟩ := hb
  obtain ⟨wt1, hl1, h⟩ := Option.bind_eq_some_iff.1 h
  obtain ⟨ins1, hl2, rfl⟩ := Option.map_eq_some_iff.1 h
  have hmk := print_make_of (P := Try.prog) 63 4 (.bool false) 1 Try.underlying63 info4b rfl (by decide) fb.length (by omega)
  have HT := Aside0.mk ht
  have HAH := Aside0.mk hah
  have HL1 := Aside0.mk hl1
  have HL2 := Aside0.mk hl2
  have HN := Aside0.mk hn
  have HH0 := Aside0.mk h0
  have HH1 := Aside0.mk h1
  have HH2 := Aside0.mk h2
  have HS := Aside0.mk (BW.start w (.cells #[.int .i64 a0, .slice A0 fb.length c0] 24) fb.length hn)
  clear ht hah hl1 hl2 h hn h0 h1 h2
  have hu := Try.underlying24
  go_enter Try.func32, Try.ntmps32
  go_upto_region 1 with (fail)
  go_cut [9] (fun v9 wc => ∃ gi, v9 = .slice (some ⟨gi, 0, none⟩) fb.length fb.length ∧ Aside0 (BW w fb.length wc gi (List.replicate fb.length false) (.slice none 0 0) []))
  case first =>
    go_wp2_with (fail)
    go_meet
    case rel => exact ⟨_, rfl, HS⟩
  case rest =>
    clear HS hmk
    obtain ⟨gi, rfl, HS⟩ := hcut
    obtain ⟨qi, fi⟩ := HS.out.ci head HH0.out HH1.out
    have HS1 := Aside0.mk (HS.out.setI head.toNat)
    have p0 := eq_true HH0.out
    have p1 := eq_true HH1.out
    have p2 := eq_true HH2.out
    obtain ⟨adh, Ac, cc, e, k0w, f0, g0⟩ := at_L1 HAH.out head HH0.out HH2.out
    subst e
    have k0 := pw_cell_below HS1.out.bel k0w
    have HC0 := Aside0.mk g0
    clear f0 g0 k0w
    go_wp2
    clear k0 qi fi p0 p1 p2
    obtain ⟨L, hL⟩ : ∃ L, rd_L1 ah head = L := ⟨_, rfl⟩
    rw [hL] at HL1 HC0 ⊢
    have HLE := Aside0.mk hL
    clear hL
    go_loopg [10, 12, 29] L.length (fun gk v10 v12 v29 Y => ∃ (j : Nat) (wt : List Int), v29 = .int .i64 (j : Int) ∧ Aside0 (gk + j = L.length) ∧ Aside0 (body_l1 k ab pl head (L.drop j) wt = some wt1) ∧ Aside0 (BW w fb.length Y gi ((List.replicate fb.length false).set head.toNat true) v10 wt))
    case atStart => exact ⟨0, [], rfl, ⟨by omega⟩, ⟨by rw [List.drop_zero]; exact HL1.out⟩, HS1⟩
    case round =>
      clear HL1 HS1 HS
      obtain ⟨j, wt, rfl, HK, HA, HB⟩ := hrel
      have hTZ := Aside0.mk (HT.out.below HB.out.bel)
      have q0 := (blk_cell hTZ.out.blk 0).trans rfl
      have q1 := (blk_cell hTZ.out.blk 1).trans rfl
      obtain ⟨Aw, cw, rfl⟩ := Kd.R_slice HB.out.rwt
      by_cases hj : j < L.length
      · have d1b := decide_eq_true (show (j : Int) < (L.length : Int) by omega)
        have d1n := decide_eq_true hj
        have hin := eq_true hj
        have hLn := Aside0.mk (show L.length ≤ 9223372036854775807 from HC0.out.2.1)
        obtain ⟨ad6, e, hx⟩ := Kd.at_int (Kd.C_below HC0.out HB.out.bel) (j : Int) (by omega) (by omega)
        subst e
        rw [Int.toNat_natCast] at hx
        have hrd : rd L (j : Int) = L[j] := by unfold rd; simp [hj]
        have h := HA.out
        rw [List.drop_eq_getElem_cons hj, ← hrd, body_l1] at h
        obtain ⟨b, hb⟩ : ∃ b, rd L (j : Int) = b := ⟨_, rfl⟩
        rw [hb] at hx h
        obtain ⟨o, ho, h⟩ := Option.bind_eq_some_iff.1 h
        have HO := Aside0.mk ho
        have HJ := Aside0.mk hj
        have hEQ := Aside0.mk (show wrap64 ((j : Int) + 1) = ((j + 1 : Nat) : Int) from by have := hLn.out; unfold wrap64; omega)
        have HM : Aside0 (gk - 1 < gk ∧ gk - 1 + (j + 1) = L.length) := ⟨by have h2 := HK.out; omega⟩
        clear hrd hb hj ho HA
        cases o with
        | false =>
          rw [if_neg (by simp)] at h
          have HN2 := Aside0.mk h
          clear h
          go_wp2_with (first
            | (go_at_call 31; (with_reducible refine (over_calls k g ab pl _ _ _ _ head b false _ hTZ.out HO.out).mono ?_); rintro e Z2 ⟨rfl, ⟨nd, rfl⟩⟩))
          go_roundg (gk - 1)
          case measure => exact HM.out.1
          case rel => exact ⟨j + 1, wt, by rw [hEQ.out], ⟨HM.out.2⟩, HN2, ⟨HB.out.below (pw_below_drewN (Below.refl _ _) _)⟩⟩
        | true =>
          rw [if_pos rfl] at h
          split at h
          rotate_left
          · cases h
          rename_i hwl
          have HN2 := Aside0.mk h
          have HWL := Aside0.mk hwl
          clear h hwl
          go_wp2_with (first
            | (go_at_call 31; (with_reducible refine (over_calls k g ab pl _ _ _ _ head b true _ hTZ.out HO.out).mono ?_); rintro e Z2 ⟨rfl, ⟨nd, rfl⟩⟩)
            | (with_reducible refine gate_builtin (b := .append) (xs := #[.tmp 37, .tmp 39]) rfl ?_
               at_builtin
               refine Aside0.out ?_))
          refine ⟨?_⟩
          have HBd := Aside0.mk (HB.out.below (pw_below_drewN (Below.refl wr.heap.size wr) nd))
          refine Kd.R_append (Kd.int .i64) (w0 := w) w.heap.size rfl (.tmp 37) (.tmp 39) 26 3 (.int .i64 0) 8 rfl Try.underlying26 info3 rfl (by decide) (by omega) (.slice Aw wt.length cw) wt b [.int .i64 b] (fun k => k ≠ gi) (fun _ => False) rfl rfl rfl (fun _ hk => hk.elim) ?aF ?aO ?aB ?aS ?aL ?_
          case aF => intro k hk; have := HBd.out.gil.2; show k ≠ gi; omega
          case aO => exact HBd.out.rwt
          case aB => exact HBd.out.bel
          case aS => exact HBd.out.bel.size
          case aL => have := HWL.out; omega
          intro v1 w1 ho hb hg hat
          have HB2 := Aside0.mk (HBd.out.new ho hb hg)
          clear ho hb hg hat
          go_simp
          go_wp2
          go_roundg (gk - 1)
          case measure => exact HM.out.1
          case rel => exact ⟨j + 1, _, by rw [hEQ.out], ⟨HM.out.2⟩, HN2, HB2⟩
      · have d1b := decide_eq_false hj
        have h := HA.out
        rw [List.drop_of_length_le (by omega), body_l1] at h
        obtain rfl := Option.some.inj h
        have HBE := Aside0.mk HB.out
        clear h hj HA HB HC0 q0 q1
        go_wp2
        go_loopg [10, 13] k (fun ik v10 v13 Y => ∃ (ins : List Bool) (wt : List Int), Aside0 (body_l2 pl ah ik ins wt = some ins1) ∧ Aside0 (BW w fb.length Y gi ins v10 wt))
        case atStart => exact ⟨_, wt, HL2, HBE⟩
        case round =>
          clear HBE HL2 hTZ
          obtain ⟨ins, wt, HA, HB⟩ := hrel
          have hTZ := Aside0.mk (HT.out.below HB.out.bel)
          have q0 := (blk_cell hTZ.out.blk 0).trans rfl
          have q1 := (blk_cell hTZ.out.blk 1).trans rfl
          obtain ⟨Aw, cw, rfl⟩ := Kd.R_slice HB.out.rwt
          have h := HA.out
          cases gk with
          | zero => cases h
          | succ gn =>
            rw [body_l2] at h
            by_cases hw : wt = []
            · rw [if_pos hw] at h
              obtain rfl := Option.some.inj h
              subst hw
              have HB' := Aside0.mk HB.out.fresh
              clear h HA
              have HB'' := HB
              clear HB
              go_wp2
              have HLI := Aside0.mk HB'.out.li
              obtain ⟨full, hfull⟩ : ∃ full, collect ins 0 = full := ⟨_, rfl⟩
              have hfl := collect_len ins 0
              have HFL := Aside0.mk (show full.length ≤ fb.length by rw [← hfull, ← HLI.out]; exact hfl)
              have HFULL := Aside0.mk hfull
              clear hfull hfl q0 q1 hTZ HB''
              go_loopg [14, 15, 16, 82] fb.length (fun ik v14 v15 v16 v82 Y => ∃ (i : Nat) (out : List Int), v82 = .int .i64 (i : Int) ∧ Aside0 (ik + i = fb.length) ∧ Aside0 (out ++ collect (ins.drop i) i = full) ∧ Aside0 (BW w fb.length Y gi ins v14 out))
              case atStart => exact ⟨0, [], rfl, ⟨by omega⟩, ⟨by rw [List.drop_zero, List.nil_append]; exact HFULL.out⟩, HB'⟩
              case round =>
                clear HB'
                obtain ⟨i, out, rfl, HK3, HA3, HB3⟩ := hrel
                obtain ⟨Ao, co, rfl⟩ := Kd.R_slice HB3.out.rwt
                by_cases hi : i < fb.length
                · have d1b := decide_eq_true (show (i : Int) < (fb.length : Int) by omega)
                  have d1n := decide_eq_true hi
                  have hin := eq_true hi
                  obtain ⟨qi, fi⟩ := HB3.out.ci (i : Int) (by omega) (by omega)
                  rw [Int.toNat_natCast] at qi fi
                  have h := HA3.out
                  have hil : i < ins.length := by rw [HLI.out]; exact hi
                  have hrd : rdOf false ins (i : Int) = ins[i] := by unfold rdOf; simp [hil]
                  rw [List.drop_eq_getElem_cons hil, ← hrd, collect] at h
                  have HI := Aside0.mk hi
                  have hEQ := Aside0.mk (show wrap64 ((i : Int) + 1) = ((i + 1 : Nat) : Int) from by have := HN.out; unfold wrap64; omega)
                  have HM : Aside0 (gk - 1 < gk ∧ gk - 1 + (i + 1) = fb.length) := ⟨by have h2 := HK3.out; omega⟩
                  cases hq : rdOf false ins (i : Int) with
                  | false =>
                    rw [hq] at qi h
                    rw [if_neg (by simp)] at h
                    have HN3 := Aside0.mk h
                    clear h hq hrd hi hil
                    go_wp2
                    go_roundg (gk - 1)
                    case measure => exact HM.out.1
                    case rel => exact ⟨i + 1, out, by rw [hEQ.out], ⟨HM.out.2⟩, HN3, HB3⟩
                  | true =>
                    rw [hq] at qi h
                    rw [if_pos rfl] at h
                    have HN3 := Aside0.mk (show (out ++ [(i : Int)]) ++ collect (ins.drop (i + 1)) (i + 1) = full by rw [List.append_assoc]; exact h)
                    have HOL : Aside0 (out.length < 1099511627776) := ⟨by have h1 := HFL.out; have h2 := HN.out; rw [← h] at h1; simp only [List.length_append, List.length_cons] at h1; omega⟩
                    clear h hq hrd hi hil
                    go_wp2_with (first
                      | (with_reducible refine gate_builtin (b := .append) (xs := #[.tmp 88, .tmp 90]) rfl ?_
                         at_builtin
                         refine Aside0.out ?_))
                    refine ⟨?_⟩
                    refine Kd.R_append (Kd.int .i64) (w0 := w) w.heap.size rfl (.tmp 88) (.tmp 90) 26 3 (.int .i64 0) 8 rfl Try.underlying26 info3 rfl (by decide) (by omega) (.slice Ao out.length co) out (i : Int) [.int .i64 (i : Int)] (fun k => k ≠ gi) (fun _ => False) rfl rfl rfl (fun _ hk => hk.elim) ?aF ?aO ?aB ?aS ?aL ?_
                    case aF => intro k hk; have := HB3.out.gil.2; show k ≠ gi; omega
                    case aO => exact HB3.out.rwt
                    case aB => exact HB3.out.bel
                    case aS => exact HB3.out.bel.size
                    case aL => have := HOL.out; omega
                    intro v1 w1 ho hb hg hat
                    have HB4 := Aside0.mk (HB3.out.new ho hb hg)
                    clear ho hb hg hat
                    go_simp
                    go_wp2
                    go_roundg (gk - 1)
                    case measure => exact HM.out.1
                    case rel => exact ⟨i + 1, _, by rw [hEQ.out], ⟨HM.out.2⟩, HN3, HB4⟩
                · have d1b := decide_eq_false hi
                  have h := HA3.out
                  rw [List.drop_of_length_le (by rw [HLI.out]; omega), collect, List.append_nil] at h
                  have HE := Aside0.mk (h.trans HFULL.out.symm)
                  have HB5 := Aside0.mk HB3.out
                  clear h hi HA3 HB3
                  go_wp2
                  go_ret
                  refine ⟨_, rfl, ?_, HB5.out.bel⟩
                  rw [← HE.out]
                  exact Kd.R_mono HB5.out.rwt (fun _ _ => trivial)
            · rw [if_neg hw] at h
              have hpos : 0 < wt.length := List.length_pos_iff.2 hw
              split at h
              rotate_left
              · cases h
              rename_i hbd
              obtain ⟨i0, hi0, hs0'⟩ := Option.map_eq_some_iff.1 info3
              obtain ⟨hlen, hcap, hCw⟩ := Kd.R_reads' HB.out.rwt
              have hcut := cut_to (P := Try.prog) 26 3 .i64 Try.underlying26 hi0 Aw wt.length cw ((wt.length : Int) - 1) (by omega) (by omega) hcap
              obtain ⟨adw, e, hx⟩ := Kd.at_int hCw ((wt.length : Int) - 1) (by omega) (by omega)
              subst e
              have hR2 := Kd.R_take (m := wt.length - 1) HB.out.rwt (by omega)
              have htl : (wt.take (wt.length - 1)).length = wt.length - 1 := by rw [List.length_take]; omega
              have ht2 : ((wt.length : Int) - 1).toNat = wt.length - 1 := by omega
              rw [ht2] at hx hcut
              obtain ⟨wt2, hwt2⟩ : ∃ wt2, wt.take (wt.length - 1) = wt2 := ⟨_, rfl⟩
              rw [hwt2] at hR2 htl h
              rw [← htl] at hR2 hcut
              obtain ⟨b, hb⟩ : ∃ b, rd wt ((wt.length : Int) - 1) = b := ⟨_, rfl⟩
              rw [hb] at hx hbd h
              obtain ⟨b0, b1, b2, b3⟩ := hbd
              have hli := HB.out.li
              obtain ⟨qi, fi⟩ := HB.out.ci b b0 (by omega)
              obtain ⟨adp, e, hxp⟩ := Kd.at_int hTZ.out.hpl b b0 b2
              subst e
              have hwr : wrap64 ((wt.length : Int) - 1) = (wt.length : Int) - 1 := by unfold wrap64; have := hCw.2.1; omega
              have g1 : decide ((wt.length : Int) > 0) = true := decide_eq_true (by omega)
              have g2 := decide_eq_true hpos
              have g3 : (0 ≤ (wt.length : Int) - 1) = True := eq_true (by omega)
              have g4 : ((wt.length : Int) - 1 < (wt.length : Int)) = True := eq_true (by omega)
              have g5 := eq_true hpos
              have g6 : (1 ≤ (wt.length : Int)) = True := eq_true (by omega)
              have g7 : (1 ≤ wt.length) = True := eq_true (by omega)
              have g8 : (0 < (wt.length : Int)) = True := eq_true (by omega)
              have p0 := eq_true b0
              have p1 : (b < (fb.length : Int)) = True := eq_true (by omega)
              have p2 := eq_true b2
              have p3 := eq_true b3
              have HR2 := Aside0.mk (show BW w fb.length wr gi ins _ wt2 from ⟨HB.out.bel, HB.out.rin, hR2⟩)
              have B0 := Aside0.mk b0
              have B3 := Aside0.mk b3
              have HTL := Aside0.mk htl
              clear hi0 hs0' hlen hcap hCw hw hpos hwt2 hb hli HA b0 b1 b2 b3 hR2 htl ht2
              cases hq : rdOf false ins b with
              | true =>
                rw [if_neg (by rw [hq]; simp)] at h
                rw [hq] at qi
                have HN2 := Aside0.mk h
                clear h hq
                go_wp2
                go_roundg gn
                case measure => omega
                case rel => exact ⟨ins, wt2, HN2, HR2⟩
              | false =>
                rw [hq] at qi h
                by_cases hpb : rd pl b ≥ 0
                · rw [if_pos ⟨rfl, hpb⟩] at h
                  have hpbb := decide_eq_true hpb
                  split at h
                  rotate_left
                  · cases h
                  rename_i hwl
                  have HWL := Aside0.mk hwl
                  have HN2 := Aside0.mk h
                  have HS2 := Aside0.mk (HR2.out.setI b.toNat)
                  obtain ⟨adh2, Ac2, cc2, e, k0w, f0, g0⟩ := at_L1 HAH.out b B0.out B3.out
                  obtain rfl := Option.some.inj e
                  have k0 := pw_cell_below HS2.out.bel k0w
                  have HG0 := Aside0.mk (Kd.C_below g0 HS2.out.bel)
                  clear h hq hwl hpb f0 g0 k0w
                  go_wp2_with (first
                    | (with_reducible refine gate_builtin (b := .append) (xs := #[.tmp 74, .tmp 78]) rfl ?_
                       at_builtin
                       refine Aside0.out ?_))
                  refine ⟨?_⟩
                  refine Kd.R_append_rows (Kd.int .i64) (w0 := w) w.heap.size rfl (.tmp 74) (.tmp 78) 26 3 (.int .i64 0) 8 rfl Try.underlying26 info3 rfl (by decide) (by omega) (.slice (some adw) wt2.length cw) wt2 (rd_L1 ah b) Ac2 (rd_L1 ah b).length cc2 (fun k => k ≠ gi) (fun _ => False) rfl rfl ?aO ?aR (fun _ _ h => h) (fun _ h => h.elim) ?aF ?aB ?aS ?aL ?_
                  case aO => exact HS2.out.rwt
                  case aR => exact HG0.out
                  case aF => intro k hk; have := HS2.out.gil.2; show k ≠ gi; omega
                  case aB => exact HS2.out.bel
                  case aS => exact HS2.out.bel.size
                  case aL => have := HWL.out; have := HTL.out; omega
                  intro v1 w1 ho hb hg hat
                  have HB2 := Aside0.mk (HS2.out.new ho hb hg)
                  clear ho hb hg hat
                  go_simp
                  go_wp2
                  go_roundg gn
                  case measure => omega
                  case rel => exact ⟨_, _, HN2, HB2⟩
                · rw [if_neg (fun hh => hpb hh.2)] at h
                  have hpbb := decide_eq_false hpb
                  have HN2 := Aside0.mk h
                  clear h hq hpb
                  go_wp2
                  go_roundg gn
                  case measure => omega
                  case rel => exact ⟨ins, wt2, HN2, HR2⟩
/-- p is known of each of a list -/
def allIs (p : Int → Option Bool) (l : List Int) : Bool := l.all (fun x => (p x).isSome)
def anyIs (p : Int → Option Bool) (l : List Int) : Bool := l.any (fun x => p x == some true)
theorem allIs_is {p : Int → Option Bool} {l : List Int} (h : allIs p l = true) : ∀ x ∈ l, p x = some (p x == some true) := fun x hx => by
  have := List.all_eq_true.1 h x hx
  cases e : p x with
  | none => rw [e] at this; cases this
  | some b => cases b <;> rfl
theorem allIs_mono {p q : Int → Option Bool} {l : List Int} (hpq : ∀ x, LeO (p x) (q x)) (h : allIs p l = true) : allIs q l = true ∧ anyIs q l = anyIs p l := by
  have hq : ∀ x ∈ l, q x = p x := fun x hx => by
    have e := allIs_is h x hx
    rw [e]; exact hpq x _ e
  refine ⟨List.all_eq_true.2 fun x hx => ?_, ?_⟩
  · have := List.all_eq_true.1 h x hx
    simp only [hq x hx]; exact this
  · unfold anyIs
    rw [Bool.eq_iff_iff, List.any_eq_true, List.any_eq_true]
    exact ⟨fun ⟨x, hx, h⟩ => ⟨x, hx, by rw [← hq x hx]; exact h⟩, fun ⟨x, hx, h⟩ => ⟨x, hx, by rw [hq x hx]; exact h⟩⟩
def loops_l0 (k : Nat) (fb : List (S54)) (ab pl : List Int) (ah : List (List Int)) : Nat → Nat → List (S35) → Option (List (S35))
  | 0, _, out => some out
  | d + 1, i, out => if allIs (over_f k ab pl (i : Int)) (rd_L1 ah (i : Int)) = true ∧ i < ah.length then
      (if anyIs (over_f k ab pl (i : Int)) (rd_L1 ah (i : Int)) = true then (dom_body.f k fb ab pl ah (i : Int)).bind (fun b => loops_l0 k fb ab pl ah d (i + 1) (out ++ [⟨(i : Int), b⟩])) else loops_l0 k fb ab pl ah d (i + 1) out) else none
def dom_Loops.f (k : Nat) (a0_0 : Int) (l0_1 : List (S54)) : Option (List (S35)) := (dom_grown.f k a0_0 l0_1).bind (fun t => (cfg_Ahead.f k a0_0 l0_1).bind (fun ah => if l0_1.length ≤ 1099511627776 then loops_l0 k l0_1 t.1 t.2 ah l0_1.length 0 [] else none))
theorem loops_l0_mono (k : Nat) (fb : List (S54)) (ab pl : List Int) (ah : List (List Int)) : ∀ (d i : Nat) (out : List (S35)), LeO (loops_l0 k fb ab pl ah d i out) (loops_l0 (k + 1) fb ab pl ah d i out)
  | 0, i, out => LeO.refl _
  | d + 1, i, out => by
    rw [loops_l0, loops_l0]
    intro r hr
    split at hr
    · rename_i h
      obtain ⟨h1, h2⟩ := allIs_mono (fun x => over_mono k ab pl (i : Int) x) h.1
      rw [if_pos ⟨h1, h.2⟩, h2]
      exact LeO.ite (LeO.bind (dom_body.mono k fb ab pl ah _) (fun b => loops_l0_mono k fb ab pl ah d (i + 1) _)) (loops_l0_mono k fb ab pl ah d (i + 1) _) r hr
    · cases hr
theorem dom_Loops.mono : ∀ a0 a1 k, LeO (dom_Loops.f k a0 a1) (dom_Loops.f (k + 1) a0 a1) := fun a0 a1 k => LeO.bind (dom_grown.mono a0 a1 k) (fun t => LeO.bind (cfg_Ahead.mono a0 a1 k) (fun ah => LeO.ite (loops_l0_mono k a1 t.1 t.2 ah _ _ _) (LeO.none _)))
/-- the tree, made from block B on -/
structure TreeO (B : Nat) (W : World) (g : Nat) (ab pl : List Int) (vA vP : Value) : Prop where
  blk : W.heap[g]? = some (.cells #[vA, vP] 42 (0, 0))
  rA : Kd.R (Kd.int .i64) 3 W B (fun _ => True) vA ab
  rP : Kd.R (Kd.int .i64) 3 W B (fun _ => True) vP pl
  hg : B ≤ g
theorem TreeO.below {B : Nat} {W W' : World} {g : Nat} {ab pl : List Int} {vA vP : Value} (h : TreeO B W g ab pl vA vP) (hb : Below W.heap.size W W') : TreeO B W' g ab pl vA vP :=
  ⟨(hb.block g (blk_lt h.blk)).trans h.blk, Kd.R_below h.rA hb, Kd.R_below h.rP hb, h.hg⟩
theorem TreeO.far {B : Nat} {W : World} {g : Nat} {ab pl : List Int} {vA vP : Value} (h : TreeO B W g ab pl vA vP) (p : Addr) (hp : p.block < B) (u : Value) : TreeO B (W.setCell p u) g ab pl vA vP := by
  have hne : ∀ k, k ≠ p.block → (W.setCell p u).heap[k]? = W.heap[k]? := fun k hk => Below.heap_setCell W p u k hk
  have hg := h.hg
  exact ⟨(hne g (by omega)).trans h.blk, Kd.R_mono (Kd.R_far (Kd.R_bound h.rA) (fun k hk => by have := hk.2.1; omega) u) (fun _ _ => trivial), Kd.R_mono (Kd.R_far (Kd.R_bound h.rP) (fun k hk => by have := hk.2.1; omega) u) (fun _ _ => trivial), h.hg⟩
theorem TreeO.tree {B : Nat} {W : World} {g : Nat} {ab pl : List Int} {A : Option Addr} {c : Nat} {A' : Option Addr} {c' : Nat} (h : TreeO B W g ab pl (.slice A ab.length c) (.slice A' pl.length c')) : TreeAt W g ab pl A c A' c' :=
  ⟨h.blk, (Kd.R_reads' h.rA).2.2, (Kd.R_reads' h.rP).2.2, (Kd.R_reads' h.rA).2.1, (Kd.R_reads' h.rP).2.1⟩
theorem GW.own {w : World} {a0 : Int} {A : Option Addr} {n c : Nat} {W : World} {g ga gp : Nat} {ab pl : List Int} (h : GW w a0 A n c W g ga gp ab pl) : TreeO w.heap.size W g ab pl (.slice (some ⟨ga, 0, none⟩) ab.length n) (.slice (some ⟨gp, 0, none⟩) pl.length n) := by
  have e1 := h.la
  have e2 := h.lp
  have h1 := h.rab
  have h2 := h.rpl
  have hb := h.blk
  refine ⟨by rw [e1, e2]; exact hb, ?_, ?_, by have := h.gb; omega⟩
  · exact Kd.R_lower (Kd.R_of_own (enc := Value.int .i64) (h1 := fun _ => rfl) (by rw [e1]; exact h1) (fun _ _ => trivial)) (by omega)
  · exact Kd.R_lower (Kd.R_of_own (enc := Value.int .i64) (h1 := fun _ => rfl) (by rw [e2]; exact h2) (fun _ _ => trivial)) (by omega)
/-- how things lie in Loops: f in its box, the tree, its pointer in block bt, what is ahead -/
structure LW (w : World) (a0 : Int) (A : Option Addr) (n c : Nat) (W : World) (g bt : Nat) (ab pl : List Int) (ah : List (List Int)) (Aab : Option Addr) (cab : Nat) (Apl : Option Addr) (cpl : Nat) (Aah : Option Addr) : Prop where
  bel : Below w.heap.size w W
  box : W.heap[w.heap.size]? = some (.cells #[.int .i64 a0, .slice A n c] 24 (0, 0))
  tree : TreeAt W g ab pl Aab cab Apl cpl
  lp : pl.length = n
  bx : W.heap[bt]? = some (.cells #[.pointer (some ⟨g, 0, none⟩)] 43 (0, 0))
  ah : Kd.C (Kd.slice 3 (Kd.int .i64)) W Aah ah.length ah
theorem LW.below {w : World} {a0 : Int} {A : Option Addr} {n c : Nat} {W W' : World} {g bt : Nat} {ab pl : List Int} {ah : List (List Int)} {Aab : Option Addr} {cab : Nat} {Apl : Option Addr} {cpl : Nat} {Aah : Option Addr} (h : LW w a0 A n c W g bt ab pl ah Aab cab Apl cpl Aah) (hb : Below W.heap.size W W') : LW w a0 A n c W' g bt ab pl ah Aab cab Apl cpl Aah :=
  ⟨below_step h.bel hb, (hb.block _ (blk_lt h.box)).trans h.box, h.tree.below hb, h.lp, (hb.block _ (blk_lt h.bx)).trans h.bx, Kd.C_below h.ah hb⟩
set_option maxHeartbeats 4000000 in
theorem loops1_calls (k : Nat) (g bt hb : Nat) (ab pl : List Int) (A : Option Addr) (c : Nat) (A' : Option Addr) (c' : Nat) (a b : Int) (r : Bool) (w : World) (ht : TreeAt w g ab pl A c A' c') (q1 : w.cell? ⟨bt, 0, none⟩ = some (.pointer (some ⟨g, 0, none⟩))) (q2 : w.cell? ⟨hb, 0, none⟩ = some (.int .i64 a)) (h : over_f k ab pl a b = some r) :
    Calls Try.prog 30 #[.int .i64 b, .pointer (some ⟨bt, 0, none⟩), .pointer (some ⟨hb, 0, none⟩)] w fun e w' => e = .returned (.bool r) ∧ Drawn0 w w' := by
  have HT := Aside0.mk ht
  have H := Aside0.mk h
  clear ht h
  go_enter Try.func30, Try.ntmps30
  go_wp2_with (go_at_call 31; (with_reducible refine (over_calls k g ab pl A c A' c' a b r _ HT.out H.out).mono ?_); rintro e Z2 ⟨rfl, ⟨nd, rfl⟩⟩)
  go_ret
  exact ⟨rfl, ⟨⟨_, rfl⟩⟩⟩
set_option maxHeartbeats 8000000 in
set_option maxRecDepth 100000 in
theorem dom_Loops.calls (k : Nat) (a0_0 : Int) (A0_1 : Option Addr) (c0_1 : Nat) (l0_1 : List (S54)) (r : List (S35)) (w : World) (hr0_1 : Kd.C k54 w A0_1 l0_1.length l0_1) (hc0_1 : l0_1.length ≤ c0_1) (h : dom_Loops.f k a0_0 l0_1 = some r) :
    Calls Try.prog 15 #[.agg #[.int .i64 a0_0, .slice A0_1 l0_1.length c0_1]] w fun e w' => ∃ v0_ : Value, e = .returned (v0_) ∧ Kd.S k35 35 w' w.heap.size (fun _ => True) v0_ r ∧ Below w.heap.size w w' := by
  unfold dom_Loops.f at h
  obtain ⟨⟨ab, pl⟩, hg, h⟩ := Option.bind_eq_some_iff.1 h
  obtain ⟨ah, hah, h⟩ := Option.bind_eq_some_iff.1 h
  split at h
  rotate_left
  · cases h
  rename_i hn
  have HR := Aside0.mk hr0_1
  have HC := Aside0.mk hc0_1
  have HG := Aside0.mk hg
  have HAH := Aside0.mk hah
  have HN := Aside0.mk hn
  have H0 := Aside0.mk h
  have hu := Try.underlying24
  obtain ⟨W1, hW1⟩ : ∃ W1, w.alloc (.cells #[.int .i64 a0_0, .slice A0_1 l0_1.length c0_1] 24) = W1 := ⟨_, rfl⟩
  have HB := Aside0.mk (show Below w.heap.size w W1 by rw [← hW1]; exact below_alloc (Below.refl w.heap.size w) _)
  have HBX := Aside0.mk (show W1.heap[w.heap.size]? = some (.cells #[.int .i64 a0_0, .slice A0_1 l0_1.length c0_1] 24 (0, 0)) by rw [← hW1]; exact heap_alloc_new w _)
  have HR1 := Aside0.mk (Kd.C_below hr0_1 HB.out)
  have b0 := (blk_cell HBX.out 0).trans rfl
  have b1 := (blk_cell HBX.out 1).trans rfl
  have hW := hW1
  clear hr0_1 hc0_1 h hg hah hn HR
  go_enter Try.func15, Try.ntmps15
  go_upto_region 1 with (fail)
  (try rw [hW])
  go_cut [3, 4] (fun v3 v4 wc => ∃ g bt Aab cab Apl cpl Aah cah, v3 = .pointer (some ⟨bt, 0, none⟩) ∧ v4 = .slice Aah ah.length cah ∧ Aside0 (LW w a0_0 A0_1 l0_1.length c0_1 wc g bt ab pl ah Aab cab Apl cpl Aah))
  case first =>
    clear hW
    have CG : ∀ X : World, Below W1.heap.size W1 X → Calls Try.prog 25 #[.agg #[.int .i64 a0_0, .slice A0_1 l0_1.length c0_1]] X fun e X2 => ∃ g Aab Apl, e = .returned (.pointer (some ⟨g, 0, none⟩)) ∧ TreeO X.heap.size X2 g ab pl (.slice Aab ab.length l0_1.length) (.slice Apl pl.length l0_1.length) ∧ pl.length = l0_1.length ∧ Below X.heap.size X X2 := fun X hX => by
      refine (dom_grown.calls k a0_0 A0_1 c0_1 l0_1 ab pl X (Kd.C_below HR1.out hX) HC.out HG.out).mono ?_
      rintro e X2 ⟨g, ga, gp, rfl, hg⟩
      exact ⟨g, _, _, rfl, hg.own, hg.lp, hg.bel⟩
    have CA : ∀ X : World, Below W1.heap.size W1 X → Calls Try.prog 28 #[.agg #[.int .i64 a0_0, .slice A0_1 l0_1.length c0_1]] X fun e X3 => ∃ A8 c8, e = .returned (.slice A8 ah.length c8) ∧ Kd.R (Kd.slice 3 (Kd.int .i64)) 26 X3 X.heap.size (fun _ => True) (.slice A8 ah.length c8) ah ∧ Below X.heap.size X X3 := fun X hX => by
      refine (cfg_Ahead.calls k a0_0 A0_1 c0_1 l0_1 ah X (Kd.C_below HR1.out hX) HC.out HAH.out).mono ?_
      rintro e X3 ⟨v8, rfl, hS8, hB5⟩
      obtain ⟨A8, c8, rfl⟩ := Kd.R_slice (Kd.S_R hS8)
      exact ⟨A8, c8, rfl, Kd.S_R hS8, hB5⟩
    have s1 := blk_lt HBX.out
    have s1e := eq_false (Nat.ne_of_lt s1)
    have HCG := Aside0.mk CG
    have HCA := Aside0.mk CA
    clear CG CA
    go_region_with (first
      | (go_at_call 25; refine (HCG.out _ (by repeat (first | with_reducible exact Below.refl _ _ | with_reducible exact HBA.out | with_reducible exact HBG.out | refine below_drew ?_ | refine below_alloc ?_ _))).mono ?_; rintro e X2 ⟨g, Aab, Apl, rfl, hT, hl, hB⟩; have HBG := Aside0.mk (below_step (w := W1) (by repeat (first | with_reducible exact Below.refl _ _ | with_reducible exact HBA.out | with_reducible exact HBG.out | refine below_drew ?_ | refine below_alloc ?_ _)) hB); have TO := Aside0.mk hT; have LG := Aside0.mk hl; (first | (have BX2 := Aside0.mk ((hB.block _ (by simp)).trans (heap_alloc_new _ _)); have bx7 := (blk_cell BX2.out 0).trans rfl; have bx8 := blk_frozen BX2.out 0) | skip); have HBXG := Aside0.mk ((HBG.out.block _ (blk_lt HBX.out)).trans HBX.out); have s2 := blk_lt HBXG.out; have s2e := eq_false (Nat.ne_of_lt s2); have b2 := (blk_cell HBXG.out 0).trans rfl; have b3 := (blk_cell HBXG.out 1).trans rfl; clear hT hl hB)
      | (go_at_call 28; refine (HCA.out _ (by repeat (first | with_reducible exact Below.refl _ _ | with_reducible exact HBA.out | with_reducible exact HBG.out | refine below_drew ?_ | refine below_alloc ?_ _))).mono ?_; rintro e X3 ⟨A8, c8, rfl, hR8, hB⟩; have HR8 := Aside0.mk (Kd.R_bound hR8); have HB23 := Aside0.mk (below_step (w := X2) (by repeat (first | with_reducible exact Below.refl _ _ | refine below_drew ?_ | refine below_alloc ?_ _)) hB); have HBA := Aside0.mk (below_step (w := W1) HBG.out HB23.out); (first | (have BX3 := Aside0.mk ((hB.block _ (by simp)).trans (heap_alloc_new _ _)); have bx5 := (blk_cell BX3.out 0).trans rfl; have bx6 := blk_frozen BX3.out 0) | (have BX3 := Aside0.mk ((hB.block _ (blk_lt BX2.out)).trans BX2.out); have bx5 := (blk_cell BX3.out 0).trans rfl; have bx6 := blk_frozen BX3.out 0) | skip); have HBXA := Aside0.mk ((HBA.out.block _ (blk_lt HBX.out)).trans HBX.out); have s3 := blk_lt HBXA.out; have s3e := eq_false (Nat.ne_of_lt s3); have b4 := (blk_cell HBXA.out 0).trans rfl; have b5 := (blk_cell HBXA.out 1).trans rfl; clear hR8 hB))
    all_goals
      go_wp2_with (fail)
      go_meet
      case rel =>
        first
        | (have hb := below_alloc (Below.refl X3.heap.size X3) (.cells #[.pointer (some ⟨g, 0, none⟩)] 43)
           refine ⟨g, X3.heap.size, Aab, _, Apl, _, A8, c8, rfl, rfl, ⟨⟨below_step HB.out (below_step (w := W1) HBA.out hb), (hb.block _ s3).trans HBXA.out, ((TO.out.below HB23.out).below hb).tree, LG.out, heap_alloc_new _ _, Kd.C_below (Kd.R_reads' HR8.out).2.2 hb⟩⟩⟩)
        | (have hb : Below X2.heap.size X2 (X3.setCell ⟨X2.heap.size, 0, none⟩ (.pointer (some ⟨g, 0, none⟩))) := HB23.out.setCell (p := ⟨X2.heap.size, 0, none⟩) (Nat.le_refl _) _
           refine ⟨g, X2.heap.size, Aab, _, Apl, _, A8, c8, rfl, rfl, ⟨⟨below_step HB.out (below_step (w := W1) HBG.out hb), (hb.block _ s2).trans HBXG.out, (TO.out.below hb).tree, LG.out, blk_set BX3.out 0 _, (Kd.R_reads' (Kd.R_far (p := ⟨X2.heap.size, 0, none⟩) HR8.out (fun k hk => ?_) _)).2.2⟩⟩⟩
           have h1 := hk.2.1
           simp at h1
           show k ≠ X2.heap.size
           omega)
        | (have hb : Below W1.heap.size W1 (X3.setCell ⟨W1.heap.size, 0, none⟩ (.pointer (some ⟨g, 0, none⟩))) := HBA.out.setCell (p := ⟨W1.heap.size, 0, none⟩) (Nat.le_refl _) _
           have hs := HBG.out.size
           refine ⟨g, W1.heap.size, Aab, _, Apl, _, A8, c8, rfl, rfl, ⟨⟨below_step HB.out hb, (hb.block _ s1).trans HBX.out, ((TO.out.below HB23.out).far ⟨W1.heap.size, 0, none⟩ (by simp) _).tree, LG.out, blk_set BX3.out 0 _, (Kd.R_reads' (Kd.R_far (p := ⟨W1.heap.size, 0, none⟩) HR8.out (fun k hk => ?_) _)).2.2⟩⟩⟩
           have h1 := hk.2.1
           have h2 := blk_lt BX2.out
           (try simp at h1)
           show k ≠ W1.heap.size
           omega)
  case rest =>
    obtain ⟨g, bt, Aab, cab, Apl, cpl, Aah, cah, rfl, rfl, HW⟩ := hcut
    have HWB := Aside0.mk HW.out.bel.size
    have b0 := (blk_cell HW.out.box 0).trans rfl
    have b1 := (blk_cell HW.out.box 1).trans rfl
    clear HB HBX HR1 HG HAH hW
    go_wp2
    clear b0 b1
    go_loopg [5, 6, 14] l0_1.length (fun gk v5 v6 v14 Y => ∃ (i : Nat) (out : List (S35)), v14 = .int .i64 (i : Int) ∧ Aside0 (gk + i = l0_1.length) ∧ Aside0 (loops_l0 k l0_1 ab pl ah gk i out = some r) ∧ Aside0 (out.length ≤ i) ∧ Aside0 (Below wc.heap.size wc Y) ∧ Aside0 (Kd.S k35 35 Y wc.heap.size (fun _ => True) v5 out))
    case atStart => exact ⟨0, [], rfl, ⟨by omega⟩, H0, ⟨by simp⟩, ⟨Below.refl _ _⟩, ⟨Kd.S_nil _ _ _ _ _⟩⟩
    case round =>
      clear H0
      obtain ⟨i, out, rfl, HK, HA, HOI, HY, HO⟩ := hrel
      obtain ⟨Ao, co, rfl⟩ := Kd.S_slice HO.out
      have HLY := Aside0.mk (HW.out.below HY.out)
      by_cases hi : i < l0_1.length
      · have d1b := decide_eq_true (show (i : Int) < (l0_1.length : Int) by omega)
        have d1n := decide_eq_true hi
        have h := HA.out
        obtain ⟨gn, rfl⟩ : ∃ gn, gk = gn + 1 := ⟨gk - 1, by have := HK.out; omega⟩
        rw [loops_l0] at h
        split at h
        rotate_left
        · cases h
        rename_i hal
        have HAL := Aside0.mk (allIs_is hal.1)
        have hia := hal.2
        have HEQ := Aside0.mk (show wrap64 ((i : Int) + 1) = ((i + 1 : Nat) : Int) from by have := HN.out; unfold wrap64; omega)
        have HGN : Aside0 (gn + (i + 1) = l0_1.length) := ⟨by have := HK.out; omega⟩
        obtain ⟨X1, hX1⟩ : ∃ X1, wr.alloc (.cells #[.int .i64 (i : Int)] 3) = X1 := ⟨_, rfl⟩
        have hbX : Below wr.heap.size wr X1 := by rw [← hX1]; exact below_alloc (Below.refl _ _) _
        have hhb : X1.heap[wr.heap.size]? = some (.cells #[.int .i64 (i : Int)] 3 (0, 0)) := by rw [← hX1]; exact heap_alloc_new _ _
        have HLX := Aside0.mk (HLY.out.below hbX)
        have HBX1 := Aside0.mk (below_step HY.out hbX)
        have HOX := Aside0.mk (Kd.S_below HO.out hbX)
        have qh := (blk_cell hhb 0).trans rfl
        have qt := (blk_cell HLX.out.bx 0).trans rfl
        obtain ⟨adr, Ar, cr, e, k0, f0, g0⟩ := at_L1 HLX.out.ah (i : Int) (by omega) (by omega)
        subst e
        rw [Int.toNat_natCast] at k0
        have hin := eq_true hia
        have HG0 := Aside0.mk g0
        have HHB := Aside0.mk hhb
        have HBX0 := Aside0.mk hbX
        have hia' : ((i : Int) < (ah.length : Int)) = True := eq_true (by omega)
        have HH := Aside0.mk h
        have HI := Aside0.mk hi
        clear g0 f0 hhb hbX hia hal h hi HLY HY HO HA HK
        have hclo : ∀ (nd : Nat) (x : Int), x ∈ rd_L1 ah (i : Int) → Calls Try.prog 30 (#[.int .i64 x] ++ #[.pointer (some ⟨bt, 0, none⟩), .pointer (some ⟨wr.heap.size, 0, none⟩)]) (X1.drewN nd) fun e w' => e = .returned (.bool (over_f k ab pl (i : Int) x == some true)) ∧ Drawn0 (X1.drewN nd) w' := fun nd x hx =>
          loops1_calls k g bt wr.heap.size ab pl _ _ _ _ (i : Int) x _ (X1.drewN nd) (HLX.out.tree.below (pw_below_drewN (Below.refl _ _) _)) qt qh (HAL.out x hx)
        have HCLO := Aside0.mk hclo
        clear hclo
        go_wp2_with (first
          | (go_at_call 29; refine Aside0.out ?_))
        refine ⟨?_⟩
        refine (containsFunc_calls 30 #[.pointer (some ⟨bt, 0, none⟩), .pointer (some ⟨wr.heap.size, 0, none⟩)] (enters_of Try.func30 (by kernel_rfl) rfl) (fun x => over_f k ab pl (i : Int) x == some true) Ar cr (rd_L1 ah (i : Int)) X1 HG0.out HCLO.out).mono ?_
        rintro e X4 ⟨rfl, ⟨nd, rfl⟩⟩
        have h := HH.out
        obtain ⟨q, hq⟩ : ∃ q, (rd_L1 ah (i : Int)).any (fun x => over_f k ab pl (i : Int) x == some true) = q := ⟨_, rfl⟩
        have hq2 : anyIs (over_f k ab pl (i : Int)) (rd_L1 ah (i : Int)) = q := hq
        rw [hq2] at h
        rw [hq]
        clear hq hq2 HH HCLO
        have hbD := pw_below_drewN (Below.refl X1.heap.size X1) nd
        have HLD := Aside0.mk (HLX.out.below hbD)
        have HBD := Aside0.mk (below_step HBX1.out hbD)
        have HOD := Aside0.mk (Kd.S_below HOX.out hbD)
        have HHD := Aside0.mk ((hbD.block _ (blk_lt HHB.out)).trans HHB.out)
        generalize X1.drewN nd = X5 at HLD HBD HOD HHD ⊢
        clear hbD k0 qh qt HOX HBX1 HLX HHB HG0 hia' hin
        cases q with
        | false =>
          rw [if_neg (by simp)] at h
          have HN2 := Aside0.mk h
          clear h
          go_simp
          go_wp2
          go_roundg gn
          case measure => omega
          case rel => exact ⟨i + 1, out, by rw [HEQ.out], HGN, HN2, ⟨by have := HOI.out; omega⟩, HBD, HOD⟩
        | true =>
          rw [if_pos rfl] at h
          obtain ⟨b, hb, h⟩ := Option.bind_eq_some_iff.1 h
          have HBO := Aside0.mk hb
          have HN2 := Aside0.mk h
          have q0 := (blk_cell HHD.out 0).trans rfl
          have q1 := (blk_cell HLD.out.bx 0).trans rfl
          have q2 := (blk_cell HLD.out.box 0).trans rfl
          have q3 := (blk_cell HLD.out.box 1).trans rfl
          clear h hb
          go_simp
          go_wp2
          have CB : ∀ X : World, Below X5.heap.size X5 X → Calls Try.prog 32 #[.agg #[.int .i64 a0_0, .slice A0_1 l0_1.length c0_1], .pointer (some ⟨g, 0, none⟩), .slice (some adr) ah.length cah, .int .i64 (i : Int)] X fun e X6 => ∃ A9 c9, e = .returned (.slice A9 b.length c9) ∧ Kd.R (Kd.int .i64) 3 X6 X.heap.size (fun _ => True) (.slice A9 b.length c9) b ∧ Below X.heap.size X X6 := fun X hX => by
            refine (dom_body.calls k a0_0 A0_1 c0_1 l0_1 g ab pl Aab cab Apl cpl (some adr) cah ah (i : Int) b X (HLD.out.tree.below hX) (Kd.C_below HLD.out.ah hX) HBO.out).mono ?_
            rintro e X6 ⟨v9, rfl, hR9, hB9⟩
            obtain ⟨A9, c9, rfl⟩ := Kd.R_slice hR9
            exact ⟨A9, c9, rfl, hR9, hB9⟩
          have HCB := Aside0.mk CB
          clear CB
          go_region_held3 (fun w' => w'.cell? ⟨wr.heap.size, 0, none⟩ = some (.int .i64 (i : Int)) ∧ w'.cell? ⟨w.heap.size, 0, none⟩ = some (.int .i64 a0_0) ∧ w'.cell? ⟨w.heap.size, 1, none⟩ = some (.slice A0_1 l0_1.length c0_1) ∧ w'.cell? ⟨bt, 0, none⟩ = some (.pointer (some ⟨g, 0, none⟩)))
            (first | exact ⟨q0, q2, q3, q1⟩ | exact ⟨p0, p2, p3, p1⟩ | exact ⟨r0, r2, r3, r1⟩ | go_keep)
            (first
              | (go_at_call 32
                 refine (HCB.out _ (by repeat (first | with_reducible exact Below.refl _ _ | refine below_drew ?_))).mono ?_
                 rintro e X6 ⟨A9, c9, rfl, hR9, hB9⟩
                 have HB6 := Aside0.mk (below_step (w := X5) (by repeat (first | with_reducible exact Below.refl _ _ | refine below_drew ?_)) hB9)
                 have HR9 := Aside0.mk hR9
                 have p0 := (blk_cell ((HB6.out.block _ (blk_lt HHD.out)).trans HHD.out) 0).trans rfl
                 have p1 := (blk_cell (HLD.out.below HB6.out).bx 0).trans rfl
                 have p2 := (blk_cell (HLD.out.below HB6.out).box 0).trans rfl
                 have p3 := (blk_cell (HLD.out.below HB6.out).box 1).trans rfl
                 clear hR9 hB9)
              | (refine Kd.S_append_step k35 (w0 := wc) (W := X6) wc.heap.size (by rfl) (.tmp 23) (.tmp 31) 32 35 (.agg #[.int .i64 0, .slice none 0 0]) 32 rfl Try.underlying32 (show (Try.prog.info? 35).map (fun i => (i.zero, i.size, i.bytes)) = some (some (.agg #[(.int .i64 0), (.slice none 0 0)]), 2, 32) by kernel_rfl) rfl (by decide) (by decide) (.slice Ao out.length co) out ⟨(i : Int), b⟩ [.int .i64 (i : Int), .slice A9 b.length c9] (fun _ => True) (fun k => X5.heap.size ≤ k) rfl rfl ?hp ?hokp (fun _ _ => trivial) ?hO ?hB ?hbase ?hl ?_
                 case hp => exact k35_mkM _ _ _ ⟨(i : Int), b⟩ (Kd.R_lower (Kd.R_mono (Kd.R_bound HR9.out) (fun k hk => hk.2.1)) HBD.out.size)
                 case hokp => exact fun k hk => ⟨trivial, fun e => by have := Kd.S_lt HOD.out k e.symm; omega⟩
                 case hO => exact Kd.S_mono (Kd.S_below (Kd.S_bound HOD.out) HB6.out) (fun k hk => ⟨trivial, by have := hk.2.2.1; omega⟩)
                 case hB => exact below_step HBD.out HB6.out
                 case hbase => exact (below_step HBD.out HB6.out).size
                 case hl => have := HOI.out; have := HI.out; have := HN.out; omega
                 intro v1 w1 ho hb hg hat
                 have HO1 := Aside0.mk ho
                 have HB1 := Aside0.mk hb
                 have hO6 := Kd.S_below HOD.out HB6.out
                 have hh6 := (HB6.out.block _ (blk_lt HHD.out)).trans HHD.out
                 have hL6 := HLD.out.below HB6.out
                 have r0 := (blk_cell ((hg.block _ (blk_lt hh6) (Kd.S_ne hO6 hh6 (by decide))).trans hh6) 0).trans rfl
                 have r1 := (blk_cell ((hg.block _ (blk_lt hL6.bx) (Kd.S_ne hO6 hL6.bx (by decide))).trans hL6.bx) 0).trans rfl
                 have r2 := (blk_cell ((hg.block _ (blk_lt hL6.box) (Kd.S_ne hO6 hL6.box (by decide))).trans hL6.box) 0).trans rfl
                 have r3 := (blk_cell ((hg.block _ (blk_lt hL6.box) (Kd.S_ne hO6 hL6.box (by decide))).trans hL6.box) 1).trans rfl
                 clear ho hb hg hat hO6 hh6 hL6))
          go_wp2
          go_roundg gn
          case measure => omega
          case rel => exact ⟨i + 1, _, by rw [HEQ.out], HGN, HN2, ⟨by have := HOI.out; rw [List.length_append, List.length_singleton]; omega⟩, HB1, HO1⟩
      · have d1b := decide_eq_false hi
        have h := HA.out
        obtain rfl : gk = 0 := by have := HK.out; omega
        rw [loops_l0] at h
        obtain rfl := Option.some.inj h
        have HE := Aside0.mk (below_step HW.out.bel HY.out)
        have HE2 := Aside0.mk (Kd.S_lower HO.out HWB.out)
        clear h hi HA HK HY HO
        go_wp2
        go_ret
        exact ⟨_, rfl, HE2.out, HE.out⟩

end Go.Proofs.Ytemclhndmcjmmaa.PDomEdges
