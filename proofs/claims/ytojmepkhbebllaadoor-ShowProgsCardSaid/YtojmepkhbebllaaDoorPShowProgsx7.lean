-- written by wip/print2.py
import Derived.Test.YtojmepkhbebllaaDoorPShowProgsx0
import Derived.Test.YtojmepkhbebllaaDoorPShowProgsx2
import Derived.Test.YtojmepkhbebllaaDoorPShowProgsx4
import Derived.Test.YtojmepkhbebllaaDoorPShowProgsx5
import Derived.Test.YtojmepkhbebllaaDoorPShowProgsx6
namespace Go.Proofs.YtojmepkhbebllaaDoor.PShowProgs
open Go.RowKit Go.Proofs.YtojmepkhbebllaaDoorW.PrintWords Go.Proofs.YtojmepkhbebllaaDoorW.PrintLast Go.Proofs.YtojmepkhbebllaaDoorW.PrintMore
attribute [local go_sem] max2_int min2_int max_two min_two max_three min_three max_four min_four   -- for this text's walks alone
set_option linter.unusedVariables false
set_option linter.unusedSimpArgs false

/-! ### show_Prog: function 14 -/
theorem flat_take {α : Type} (g : α → List UInt8) (l : List α) (k : Nat) (h : k < l.length) : (l.take (k + 1)).flatMap g = (l.take k).flatMap g ++ g l[k] := by
  rw [List.take_succ_eq_append_getElem h, List.flatMap_append]; simp
theorem flat_take_le {α : Type} (g : α → List UInt8) (l : List α) (k : Nat) : ((l.take k).flatMap g).length ≤ (l.flatMap g).length := by
  have h : (l.take k ++ l.drop k).flatMap g = (l.take k).flatMap g ++ (l.drop k).flatMap g := List.flatMap_append
  rw [List.take_append_drop] at h
  rw [h, List.length_append]; omega
theorem box2 {w : World} {g : Nat} {t : TypeId} {z0 z1 : Value} (h : w.heap[g]? = some (.cells #[z0, z1] t (0, 0))) (v0 v1 : Value) :
    ((w.setCell ⟨g, 0, none⟩ v0).setCell ⟨g, 1, none⟩ v1).heap[g]? = some (.cells #[v0, v1] t (0, 0)) := by
  have a0 := blk_put (cs' := #[v0, z1]) h 0 v0 rfl
  have a1 := blk_put (cs' := #[v0, v1]) a0 1 v1 rfl
  exact a1
theorem below2 {B : Nat} {w0 w : World} {g : Nat} (h : Below B w0 w) (hg : B ≤ g) (v0 v1 : Value) : Below B w0 ((w.setCell ⟨g, 0, none⟩ v0).setCell ⟨g, 1, none⟩ v1) :=
  (h.setCell (p := ⟨g, 0, none⟩) hg v0).setCell (p := ⟨g, 1, none⟩) hg v1
def show_Prog.f (s0_0 : List (S52)) (s0_1 : List (S54)) (s0_2 : List (S44)) : Option ByteArray :=
  if (s0_0.length ≤ 2048 ∧ ∀ s ∈ s0_0, sigOk s) ∧ (s0_1.length ≤ 2048 ∧ ∀ s ∈ s0_1, clsOk s) ∧ (s0_2.length ≤ 2048 ∧ ∀ s ∈ s0_2, funOk s) ∧ (progL s0_0 s0_1 s0_2).length ≤ 140737488355328 then some ⟨(progL s0_0 s0_1 s0_2).toArray⟩ else none
set_option maxHeartbeats 16000000 in
set_option maxRecDepth 100000 in
theorem show_Prog_w (g : Nat) (A0 A1 A2 : Option Addr) (c0 c1 c2 : Nat) (s0_0 : List (S52)) (s0_1 : List (S54)) (s0_2 : List (S44)) (w : World)
    (hg : w.heap[g]? = some (.cells #[.slice A0 s0_0.length c0, .slice A1 s0_1.length c1, .slice A2 s0_2.length c2] 34 (0, 0)))
    (q0 : Kd.C k52 w A0 s0_0.length s0_0) (q1 : Kd.C k54 w A1 s0_1.length s0_1) (q2 : Kd.C k44 w A2 s0_2.length s0_2)
    (h0 : s0_0.length ≤ 2048 ∧ ∀ s ∈ s0_0, sigOk s) (h1 : s0_1.length ≤ 2048 ∧ ∀ s ∈ s0_1, clsOk s) (h2 : s0_2.length ≤ 2048 ∧ ∀ s ∈ s0_2, funOk s) (hlen : (progL s0_0 s0_1 s0_2).length ≤ 140737488355328) (hG : Door.Laid w) :
    Calls Tryd.prog 14 #[.pointer (some ⟨g, 0, none⟩)] w fun e w' => e = .returned (.string ⟨(progL s0_0 s0_1 s0_2).toArray⟩) ∧ Below w.heap.size w w' := by
  obtain ⟨hl0, h0⟩ := h0
  obtain ⟨hl1, h1⟩ := h1
  obtain ⟨hl2, h2⟩ := h2
  have HOK0 := zm h0
  have HOK1 := zm h1
  have HOK2 := zm h2
  have HQ0 := zm q0
  have HQ1 := zm q1
  have HQ2 := zm q2
  have HLEN := zm hlen
  have HG := zm hG
  have HGB := zm hg
  obtain ⟨W1, hW1⟩ : ∃ W1, w.alloc (.cells #[.pointer none, .slice none 0 0] 66) = W1 := ⟨_, rfl⟩
  obtain ⟨b, hb⟩ : ∃ b, w.heap.size = b := ⟨_, rfl⟩
  have hb1 : Below w.heap.size w W1 := by rw [← hW1]; exact below_alloc (Below.refl _ _) _
  have hbl : Lib.IsBuilder 66 5 w.heap.size b (Lib.byteCells []) W1 := by rw [← hW1, ← hb]; exact Lib.fresh_isBuilder 66 5 w
  have HFS := zm (FS.mk (w0 := w) (b := b) (bs := []) (X := W1) hb1 hbl)
  have p0 : W1.cell? ⟨g, 0, none⟩ = some (.slice A0 s0_0.length c0) := (hb1.cell (p := ⟨g, 0, none⟩) (blk_lt hg)).trans ((blk_cell hg 0).trans rfl)
  have HBE := zm hb
  clear h0 h1 h2 q0 q1 q2 hlen hG hg hb1 hbl
  go_enter Tryd.func14, Tryd.ntmps14
  go_wp2
  clear p0
  go_loopw [17] (fun v wr => ∃ i : Nat, v = .int .i64 i ∧ i ≤ s0_0.length ∧ Aside0 (FS w b ((s0_0.take i).flatMap sigL) wr)) (fun v _ => s0_0.length - (intOf v).toNat)
  case atStart => exact ⟨0, rfl, Nat.zero_le _, ⟨by have := HFS.out; simpa using this⟩⟩
  case round =>
      obtain ⟨i, rfl, hi_, HR⟩ := hrel
      by_cases hlt : i < s0_0.length
      · obtain ⟨s, hs⟩ : ∃ s, s0_0[i] = s := ⟨_, rfl⟩
        have hok : sigOk s := by rw [← hs]; exact HOK0.out _ (List.getElem_mem hlt)
        have hi0_ : 0 ≤ (i : Int) := by omega
        have hi1_ : (i : Int) < (s0_0.length : Int) := by omega
        have hrd : rd_T52 s0_0 (i : Int) = s := by
          unfold rd_T52
          rw [Int.toNat_natCast, List.getD_eq_getElem?_getD, List.getElem?_eq_getElem hlt, Option.getD_some, hs]
        obtain ⟨ad, Q0, e0, had, hx0, hx1, hl0, hi0⟩ := at_T52 HQ0.out i hi0_ hi1_
        subst had
        rw [hrd] at hx0 hx1 hl0 hi0
        rw [Int.toNat_natCast] at hx0 hx1
        have hbel := HR.out.bel
        replace hx0 := pw_cell_below hbel hx0
        replace hx1 := pw_cell_below hbel hx1
        have htk := flat_take sigL s0_0 i hlt
        have htle := flat_take_le sigL s0_0 (i + 1)
        rw [hs] at htk
        obtain ⟨cur, hcur⟩ : ∃ cur, (s0_0.take i).flatMap sigL = cur := ⟨_, rfl⟩
        have hcl : cur.length + (sigL s).length ≤ 140737488355328 := by
          have h9 := HLEN.out
          rw [htk] at htle
          rw [← hcur]
          unfold progL at h9
          simp only [List.length_append] at h9 htle ⊢
          omega
        have hnx : (s0_0.take (i + 1)).flatMap sigL = cur ++ sigL s := by rw [htk, ← hcur]; try simp only [List.append_assoc]
        rw [hcur] at HR
        have HNX := zm hnx
        have HCL := zm hcl
        clear hnx hcl hcur htk htle hs hrd
        obtain ⟨hp, hpi, hq⟩ := hok
        have hsp := brt_small s.f0 hp hpi
        have hst := tF_size s.f1 hq
        obtain ⟨xp, hxp⟩ : ∃ x, brS tF s.f0 = x := ⟨_, rfl⟩
        obtain ⟨xt, hxt⟩ : ∃ x, tF s.f1 = x := ⟨_, rfl⟩
        rw [hxp] at hsp
        rw [hxt] at hst
        obtain ⟨s1, hs1⟩ : ∃ x, ((((⟨#[115, 105, 103, 32]⟩ : ByteArray) ++ xp) ++ (⟨#[32]⟩ : ByteArray)) ++ xt) ++ (⟨#[10]⟩ : ByteArray) = x := ⟨_, rfl⟩
        have hln : sigL s = bl s1 := by unfold sigL; rw [hxp, hxt, ← hs1]; simp only [bl_app]; rfl
        have HI0 := zm hi0
        have HPC := zm (fun (X : World) (hX : Below w.heap.size w X) => hxp ▸ brt_call Q0 e0 s.f0 X (Kd.C_below HI0.out hX) hl0 (by omega) hpi (HG.out.on hX))
        have HTC := zm (fun (X : World) (hX : Door.Laid X) => hxt ▸ typed_call s.f1 X hq hX)
        rw [hln] at HNX HCL
        rw [bl_len] at HCL
        have HS1_ := zm hs1
        clear hs1 hln hxp hxt hpi hi0 hq
        have q0 : 4 + xp.size ≤ 9223372036854775807 := by omega
        have q0a := eq_true q0
        have q0b := decide_eq_true q0
        have q0c : (9223372036854775807 < 4 + xp.size) = False := eq_false (Nat.not_lt.2 q0)
        have q1 : 4 + xp.size + 1 ≤ 9223372036854775807 := by omega
        have q1a := eq_true q1
        have q1b := decide_eq_true q1
        have q1c : (9223372036854775807 < 4 + xp.size + 1) = False := eq_false (Nat.not_lt.2 q1)
        have q2 : 4 + xp.size + 1 + xt.size ≤ 9223372036854775807 := by omega
        have q2a := eq_true q2
        have q2b := decide_eq_true q2
        have q2c : (9223372036854775807 < 4 + xp.size + 1 + xt.size) = False := eq_false (Nat.not_lt.2 q2)
        have q3 : 4 + xp.size + 1 + xt.size + 1 ≤ 9223372036854775807 := by omega
        have q3a := eq_true q3
        have q3b := decide_eq_true q3
        have q3c : (9223372036854775807 < 4 + xp.size + 1 + xt.size + 1) = False := eq_false (Nat.not_lt.2 q3)
        go_wp2_with (first | ((with_reducible refine gate_dst (N := 5) rfl ?_); refine box_event ?hg (N := 5) ?hd (cs := #[.slice none 0 0, .int .i64 0]) (t := 52) ?hr ?_; (case hd => rfl); (case hg => rfl); (case hr => first | (go_simp; done) | (go_simp; rfl)); intro go hgo W4 hbox hb; have Xgo := zm (And.intro hbox (And.intro hb hgo)); clear hb; have hzgo_0 : W4.cell? ⟨go, 0, none⟩ = some (.slice none 0 0) := (blk_cell hbox 0).trans rfl; have hzgo_1 : W4.cell? ⟨go, 1, none⟩ = some (.int .i64 0) := (blk_cell hbox 1).trans rfl; have fzgo := fun j => blk_frozen hbox j; have fzgo_0 := fzgo 0; have fzgo_1 := fzgo 1; clear fzgo; clear hbox hgo))
        obtain ⟨hbx, hbb, hgo⟩ := Xgo.out
        obtain ⟨W5, hW5⟩ : ∃ W5, ((W4.setCell ⟨go, 0, none⟩ (.slice Q0 s.f0.length e0)).setCell ⟨go, 1, none⟩ (.int .i64 s.f1)) = W5 := ⟨_, rfl⟩
        have k5 := box2 hbx (.slice Q0 s.f0.length e0) (.int .i64 s.f1)
        rw [hW5] at k5
        have b5 : Below wr.heap.size wr W5 := by rw [← hW5]; exact below2 hbb (Nat.le_of_eq hgo.symm) _ _
        rw [hW5]
        have HS5 := zm (HR.out.below b5)
        have HBw5 := zm HS5.out.bel
        have HO5 := zm k5
        have o5O0 : W5.cell? ⟨go, 0, none⟩ = some (.slice Q0 s.f0.length e0) := (blk_cell k5 0).trans rfl
        have o5O1 : W5.cell? ⟨go, 1, none⟩ = some (.int .i64 s.f1) := (blk_cell k5 1).trans rfl
        clear hzgo_0 fzgo_0 hzgo_1 fzgo_1
        clear hx0 hx1 hbx hbb hgo k5 b5 hW5 Xgo hbel
        have hs1_ := HS1_.out
        go_region_held3 (fun w' => w'.cell? ⟨go, 0, none⟩ = some (.slice Q0 s.f0.length e0) ∧ w'.cell? ⟨go, 1, none⟩ = some (.int .i64 s.f1))
          (first | exact ⟨o5O0, o5O1⟩ | exact ⟨o6O0, o6O1⟩ | exact ⟨o7O0, o7O1⟩ | exact ⟨o8O0, o8O1⟩ | go_keep)
          (first
          | (go_at_call 30
             refine (HPC.out _ (by repeat (first | with_reducible exact HBw5.out | refine below_drew ?_))).mono ?_
             rintro e W6 ⟨rfl, hb⟩
             have HT6 := zm (below_step (w := W5) (by repeat (first | with_reducible exact Below.refl _ _ | refine below_drew ?_)) hb)
             have HS6 := zm (HS5.out.below HT6.out)
             have HBw6 := zm HS6.out.bel
             have HO6 := zm (blk_below HO5.out HT6.out)
             have o6O0 : W6.cell? ⟨go, 0, none⟩ = some (.slice Q0 s.f0.length e0) := (blk_cell HO6.out 0).trans rfl
             have o6O1 : W6.cell? ⟨go, 1, none⟩ = some (.int .i64 s.f1) := (blk_cell HO6.out 1).trans rfl
             clear hb)
          | (go_at_call 26
             refine (HTC.out _ (HG.out.on (by repeat (first | with_reducible exact HBw6.out | refine below_drew ?_)))).mono ?_
             rintro e W7 ⟨rfl, hb⟩
             have HT7 := zm (below_step (w := W6) (by repeat (first | with_reducible exact Below.refl _ _ | refine below_drew ?_)) hb)
             have HS7 := zm (HS6.out.below HT7.out)
             have HBw7 := zm HS7.out.bel
             have HO7 := zm (blk_below HO6.out HT7.out)
             have o7O0 : W7.cell? ⟨go, 0, none⟩ = some (.slice Q0 s.f0.length e0) := (blk_cell HO7.out 0).trans rfl
             have o7O1 : W7.cell? ⟨go, 1, none⟩ = some (.int .i64 s.f1) := (blk_cell HO7.out 1).trans rfl
             clear hb)
          | (go_at_call 29
             refine ((HS7.out.below (by repeat (first | with_reducible exact Below.refl _ _ | refine below_drew ?_))).write s1 ?c1).mono ?_
             case c1 => (have := HCL.out; omega)
             rintro e W8 ⟨rfl, hs, hk⟩
             have HO8 := zm ((HS7.out.below (by repeat (first | with_reducible exact Below.refl _ _ | refine below_drew ?_))).kept hk (by (with_reducible repeat (first | refine blk_drewN ?_ _ | refine blk_drew ?_)); exact HO7.out) (by decide) (by decide))
             have HS8 := zm hs
             have HBw8 := zm HS8.out.bel
             have o8O0 : W8.cell? ⟨go, 0, none⟩ = some (.slice Q0 s.f0.length e0) := (blk_cell HO8.out 0).trans rfl
             have o8O1 : W8.cell? ⟨go, 1, none⟩ = some (.int .i64 s.f1) := (blk_cell HO8.out 1).trans rfl
             clear hs hk))
        clear hs1_
        go_wp2
        exact ⟨⟨i + 1, by go_num, by omega, ⟨by rw [HNX.out]; exact HS8.out⟩⟩, by simp [intOf]; omega⟩
      · have hie : i = s0_0.length := by omega
        have hfull : s0_0.take i = s0_0 := List.take_of_length_le (by omega)
        have hge : ¬ ((i : Int) < (s0_0.length : Int)) := by omega
        have HF := zm hfull
        have HR0 := zm (show FS w b (s0_0.flatMap sigL) wr from by have := HR.out; rw [HF.out] at this; exact this)
        clear hfull
        have p1 : wr.cell? ⟨g, 1, none⟩ = some (.slice A1 s0_1.length c1) := (HR0.out.bel.cell (p := ⟨g, 1, none⟩) (blk_lt HGB.out)).trans ((blk_cell HGB.out 1).trans rfl)
        go_wp2
        clear p1
        go_loopw [38] (fun v wr => ∃ i : Nat, v = .int .i64 i ∧ i ≤ s0_1.length ∧ Aside0 (FS w b (s0_0.flatMap sigL ++ (s0_1.take i).flatMap clsL) wr)) (fun v _ => s0_1.length - (intOf v).toNat)
        case atStart => exact ⟨0, rfl, Nat.zero_le _, ⟨by have := HR0.out; simpa using this⟩⟩
        case round =>
            obtain ⟨i, rfl, hi_, HR⟩ := hrel
            by_cases hlt : i < s0_1.length
            · obtain ⟨s, hs⟩ : ∃ s, s0_1[i] = s := ⟨_, rfl⟩
              have hok : clsOk s := by rw [← hs]; exact HOK1.out _ (List.getElem_mem hlt)
              have hi0_ : 0 ≤ (i : Int) := by omega
              have hi1_ : (i : Int) < (s0_1.length : Int) := by omega
              have hrd : rd_T54 s0_1 (i : Int) = s := by
                unfold rd_T54
                rw [Int.toNat_natCast, List.getD_eq_getElem?_getD, List.getElem?_eq_getElem hlt, Option.getD_some, hs]
              obtain ⟨ad, Q0, e0, Q1, e1, had, hx0, hx1, hl0, hi0, hl1, hi1⟩ := at_T54 HQ1.out i hi0_ hi1_
              subst had
              rw [hrd] at hx0 hx1 hl0 hi0 hl1 hi1
              rw [Int.toNat_natCast] at hx0 hx1
              have hbel := HR.out.bel
              replace hx0 := pw_cell_below hbel hx0
              replace hx1 := pw_cell_below hbel hx1
              have htk := flat_take clsL s0_1 i hlt
              have htle := flat_take_le clsL s0_1 (i + 1)
              rw [hs] at htk
              obtain ⟨cur, hcur⟩ : ∃ cur, s0_0.flatMap sigL ++ (s0_1.take i).flatMap clsL = cur := ⟨_, rfl⟩
              have hcl : cur.length + (clsL s).length ≤ 140737488355328 := by
                have h9 := HLEN.out
                rw [htk] at htle
                rw [← hcur]
                unfold progL at h9
                simp only [List.length_append] at h9 htle ⊢
                omega
              have hnx : s0_0.flatMap sigL ++ (s0_1.take (i + 1)).flatMap clsL = cur ++ clsL s := by rw [htk, ← hcur]; try simp only [List.append_assoc]
              rw [hcur] at HR
              have HNX := zm hnx
              have HCL := zm hcl
              clear hnx hcl hcur htk htle hs hrd
              obtain ⟨hp, hpi, hq, hqi⟩ := hok
              have hsp := brt_small s.f0 hp hpi
              have hst : (⟨(jn [44] (s.f1.map shD)).toArray⟩ : ByteArray).size ≤ 124930 := by
                rw [size_of_list2]
                have h1 := jn_len (s.f1.map shD)
                have h2 := lensB_map shD 60 shD_size60 s.f1 hqi
                rw [List.length_map] at h1
                omega
              obtain ⟨xp, hxp⟩ : ∃ x, brS tF s.f0 = x := ⟨_, rfl⟩
              obtain ⟨xt, hxt⟩ : ∃ x, (⟨(jn [44] (s.f1.map shD)).toArray⟩ : ByteArray) = x := ⟨_, rfl⟩
              rw [hxp] at hsp
              rw [hxt] at hst
              obtain ⟨s1, hs1⟩ : ∃ x, ((((⟨#[99, 108, 97, 115, 115, 32]⟩ : ByteArray) ++ xp) ++ (⟨#[32, 91]⟩ : ByteArray)) ++ xt) ++ (⟨#[93, 10]⟩ : ByteArray) = x := ⟨_, rfl⟩
              have hln : clsL s = bl s1 := by unfold clsL; rw [hxp, ← hs1, ← hxt]; simp only [bl_app]; rfl
              have HI0 := zm hi0
              have HI1 := zm hi1
              have HPC := zm (fun (X : World) (hX : Below w.heap.size w X) => hxp ▸ brt_call Q0 e0 s.f0 X (Kd.C_below HI0.out hX) hl0 (by omega) hpi (HG.out.on hX))
              have HTC := zm (fun (X : World) (hX : Below w.heap.size w X) => hxt ▸ manyd_call Q1 e1 s.f1 X (Kd.C_below HI1.out hX) hl1 (by omega) hqi (HG.out.on hX))
              rw [hln] at HNX HCL
              rw [bl_len] at HCL
              have HS1_ := zm hs1
              clear hs1 hln hxp hxt hpi hi0 hi1 hqi
              have q0 : 6 + xp.size ≤ 9223372036854775807 := by omega
              have q0a := eq_true q0
              have q0b := decide_eq_true q0
              have q0c : (9223372036854775807 < 6 + xp.size) = False := eq_false (Nat.not_lt.2 q0)
              have q1 : 6 + xp.size + 2 ≤ 9223372036854775807 := by omega
              have q1a := eq_true q1
              have q1b := decide_eq_true q1
              have q1c : (9223372036854775807 < 6 + xp.size + 2) = False := eq_false (Nat.not_lt.2 q1)
              have q2 : 6 + xp.size + 2 + xt.size ≤ 9223372036854775807 := by omega
              have q2a := eq_true q2
              have q2b := decide_eq_true q2
              have q2c : (9223372036854775807 < 6 + xp.size + 2 + xt.size) = False := eq_false (Nat.not_lt.2 q2)
              have q3 : 6 + xp.size + 2 + xt.size + 2 ≤ 9223372036854775807 := by omega
              have q3a := eq_true q3
              have q3b := decide_eq_true q3
              have q3c : (9223372036854775807 < 6 + xp.size + 2 + xt.size + 2) = False := eq_false (Nat.not_lt.2 q3)
              go_wp2_with (first | ((with_reducible refine gate_dst (N := 7) rfl ?_); refine box_event ?hg (N := 7) ?hd (cs := #[.slice none 0 0, .slice none 0 0]) (t := 54) ?hr ?_; (case hd => rfl); (case hg => rfl); (case hr => first | (go_simp; done) | (go_simp; rfl)); intro go hgo W4 hbox hb; have Xgo := zm (And.intro hbox (And.intro hb hgo)); clear hb; have hzgo_0 : W4.cell? ⟨go, 0, none⟩ = some (.slice none 0 0) := (blk_cell hbox 0).trans rfl; have hzgo_1 : W4.cell? ⟨go, 1, none⟩ = some (.slice none 0 0) := (blk_cell hbox 1).trans rfl; have fzgo := fun j => blk_frozen hbox j; have fzgo_0 := fzgo 0; have fzgo_1 := fzgo 1; clear fzgo; clear hbox hgo))
              obtain ⟨hbx, hbb, hgo⟩ := Xgo.out
              obtain ⟨W5, hW5⟩ : ∃ W5, ((W4.setCell ⟨go, 0, none⟩ (.slice Q0 s.f0.length e0)).setCell ⟨go, 1, none⟩ (.slice Q1 s.f1.length e1)) = W5 := ⟨_, rfl⟩
              have k5 := box2 hbx (.slice Q0 s.f0.length e0) (.slice Q1 s.f1.length e1)
              rw [hW5] at k5
              have b5 : Below wr.heap.size wr W5 := by rw [← hW5]; exact below2 hbb (Nat.le_of_eq hgo.symm) _ _
              rw [hW5]
              have HS5 := zm (HR.out.below b5)
              have HBw5 := zm HS5.out.bel
              have HO5 := zm k5
              have o5O0 : W5.cell? ⟨go, 0, none⟩ = some (.slice Q0 s.f0.length e0) := (blk_cell k5 0).trans rfl
              have o5O1 : W5.cell? ⟨go, 1, none⟩ = some (.slice Q1 s.f1.length e1) := (blk_cell k5 1).trans rfl
              clear hzgo_0 fzgo_0 hzgo_1 fzgo_1
              clear hx0 hx1 hbx hbb hgo k5 b5 hW5 Xgo hbel
              have hs1_ := HS1_.out
              go_region_held3 (fun w' => w'.cell? ⟨go, 0, none⟩ = some (.slice Q0 s.f0.length e0) ∧ w'.cell? ⟨go, 1, none⟩ = some (.slice Q1 s.f1.length e1))
                (first | exact ⟨o5O0, o5O1⟩ | exact ⟨o6O0, o6O1⟩ | exact ⟨o7O0, o7O1⟩ | exact ⟨o8O0, o8O1⟩ | go_keep)
                (first
                | (go_at_call 30
                   refine (HPC.out _ (by repeat (first | with_reducible exact HBw5.out | refine below_drew ?_))).mono ?_
                   rintro e W6 ⟨rfl, hb⟩
                   have HT6 := zm (below_step (w := W5) (by repeat (first | with_reducible exact Below.refl _ _ | refine below_drew ?_)) hb)
                   have HS6 := zm (HS5.out.below HT6.out)
                   have HBw6 := zm HS6.out.bel
                   have HO6 := zm (blk_below HO5.out HT6.out)
                   have o6O0 : W6.cell? ⟨go, 0, none⟩ = some (.slice Q0 s.f0.length e0) := (blk_cell HO6.out 0).trans rfl
                   have o6O1 : W6.cell? ⟨go, 1, none⟩ = some (.slice Q1 s.f1.length e1) := (blk_cell HO6.out 1).trans rfl
                   clear hb)
                | (go_at_call 31
                   refine (HTC.out _ (by repeat (first | with_reducible exact HBw6.out | refine below_drew ?_))).mono ?_
                   rintro e W7 ⟨rfl, hb⟩
                   have HT7 := zm (below_step (w := W6) (by repeat (first | with_reducible exact Below.refl _ _ | refine below_drew ?_)) hb)
                   have HS7 := zm (HS6.out.below HT7.out)
                   have HBw7 := zm HS7.out.bel
                   have HO7 := zm (blk_below HO6.out HT7.out)
                   have o7O0 : W7.cell? ⟨go, 0, none⟩ = some (.slice Q0 s.f0.length e0) := (blk_cell HO7.out 0).trans rfl
                   have o7O1 : W7.cell? ⟨go, 1, none⟩ = some (.slice Q1 s.f1.length e1) := (blk_cell HO7.out 1).trans rfl
                   clear hb)
                | (go_at_call 29
                   refine ((HS7.out.below (by repeat (first | with_reducible exact Below.refl _ _ | refine below_drew ?_))).write s1 ?c1).mono ?_
                   case c1 => (have := HCL.out; omega)
                   rintro e W8 ⟨rfl, hs, hk⟩
                   have HO8 := zm ((HS7.out.below (by repeat (first | with_reducible exact Below.refl _ _ | refine below_drew ?_))).kept hk (by (with_reducible repeat (first | refine blk_drewN ?_ _ | refine blk_drew ?_)); exact HO7.out) (by decide) (by decide))
                   have HS8 := zm hs
                   have HBw8 := zm HS8.out.bel
                   have o8O0 : W8.cell? ⟨go, 0, none⟩ = some (.slice Q0 s.f0.length e0) := (blk_cell HO8.out 0).trans rfl
                   have o8O1 : W8.cell? ⟨go, 1, none⟩ = some (.slice Q1 s.f1.length e1) := (blk_cell HO8.out 1).trans rfl
                   clear hs hk))
              clear hs1_
              go_wp2
              exact ⟨⟨i + 1, by go_num, by omega, ⟨by rw [HNX.out]; exact HS8.out⟩⟩, by simp [intOf]; omega⟩
            · have hie : i = s0_1.length := by omega
              have hfull : s0_1.take i = s0_1 := List.take_of_length_le (by omega)
              have hge : ¬ ((i : Int) < (s0_1.length : Int)) := by omega
              have HF := zm hfull
              have HR1 := zm (show FS w b (s0_0.flatMap sigL ++ s0_1.flatMap clsL) wr from by have := HR.out; rw [HF.out] at this; exact this)
              clear hfull
              have p2 : wr.cell? ⟨g, 2, none⟩ = some (.slice A2 s0_2.length c2) := (HR1.out.bel.cell (p := ⟨g, 2, none⟩) (blk_lt HGB.out)).trans ((blk_cell HGB.out 2).trans rfl)
              go_wp2
              clear p2
              go_loopw [59] (fun v wr => ∃ i : Nat, v = .int .i64 i ∧ i ≤ s0_2.length ∧ Aside0 (FS w b (s0_0.flatMap sigL ++ s0_1.flatMap clsL ++ (s0_2.take i).flatMap funL) wr)) (fun v _ => s0_2.length - (intOf v).toNat)
              case atStart => exact ⟨0, rfl, Nat.zero_le _, ⟨by have := HR1.out; simpa using this⟩⟩
              case round =>
                  obtain ⟨i, rfl, hi_, HR⟩ := hrel
                  by_cases hlt : i < s0_2.length
                  · obtain ⟨s, hs⟩ : ∃ s, s0_2[i] = s := ⟨_, rfl⟩
                    have hok : funOk s := by rw [← hs]; exact HOK2.out _ (List.getElem_mem hlt)
                    have hi0_ : 0 ≤ (i : Int) := by omega
                    have hi1_ : (i : Int) < (s0_2.length : Int) := by omega
                    have hrd : rd_T44 s0_2 (i : Int) = s := by
                      unfold rd_T44
                      rw [Int.toNat_natCast, List.getD_eq_getElem?_getD, List.getElem?_eq_getElem hlt, Option.getD_some, hs]
                    obtain ⟨ad, Q1, e1, had, hx0, hx1, hl1, hi1⟩ := at_T44 HQ2.out i hi0_ hi1_
                    subst had
                    rw [hrd] at hx0 hx1 hl1 hi1
                    rw [Int.toNat_natCast] at hx0 hx1
                    have hbel := HR.out.bel
                    replace hx0 := pw_cell_below hbel hx0
                    replace hx1 := pw_cell_below hbel hx1
                    have htk := flat_take funL s0_2 i hlt
                    have htle := flat_take_le funL s0_2 (i + 1)
                    rw [hs] at htk
                    obtain ⟨cur, hcur⟩ : ∃ cur, s0_0.flatMap sigL ++ s0_1.flatMap clsL ++ (s0_2.take i).flatMap funL = cur := ⟨_, rfl⟩
                    have hcl : cur.length + (funL s).length ≤ 140737488355328 := by
                      have h9 := HLEN.out
                      rw [htk] at htle
                      rw [← hcur]
                      unfold progL at h9
                      simp only [List.length_append] at h9 htle ⊢
                      omega
                    have hnx : s0_0.flatMap sigL ++ s0_1.flatMap clsL ++ (s0_2.take (i + 1)).flatMap funL = cur ++ funL s := by rw [htk, ← hcur]; try simp only [List.append_assoc]
                    rw [hcur] at HR
                    have HNX := zm hnx
                    have HCL := zm hcl
                    clear hnx hcl hcur htk htle hs hrd
                    have HOKS := zm hok
                    have HI1 := zm hi1
                    have HL1 := zm hl1
                    clear hok hi1 hl1
                    go_wp2_with (first | ((with_reducible refine gate_dst (N := 9) rfl ?_); refine box_event ?hg (N := 9) ?hd (cs := #[.int .i64 0, .slice none 0 0]) (t := 44) ?hr ?_; (case hd => rfl); (case hg => rfl); (case hr => first | (go_simp; done) | (go_simp; rfl)); intro go hgo W4 hbox hb; have Xgo := zm (And.intro hbox (And.intro hb hgo)); clear hb; have hzgo_0 : W4.cell? ⟨go, 0, none⟩ = some (.int .i64 0) := (blk_cell hbox 0).trans rfl; have hzgo_1 : W4.cell? ⟨go, 1, none⟩ = some (.slice none 0 0) := (blk_cell hbox 1).trans rfl; have fzgo := fun j => blk_frozen hbox j; have fzgo_0 := fzgo 0; have fzgo_1 := fzgo 1; clear fzgo; clear hbox hgo))
                    obtain ⟨hbx, hbb, hgo⟩ := Xgo.out
                    obtain ⟨W5, hW5⟩ : ∃ W5, ((W4.setCell ⟨go, 0, none⟩ (.int .i64 s.f0)).setCell ⟨go, 1, none⟩ (.slice Q1 s.f1.length e1)) = W5 := ⟨_, rfl⟩
                    have k5 := box2 hbx (.int .i64 s.f0) (.slice Q1 s.f1.length e1)
                    rw [hW5] at k5
                    have b5 : Below wr.heap.size wr W5 := by rw [← hW5]; exact below2 hbb (Nat.le_of_eq hgo.symm) _ _
                    rw [hW5]
                    have HS5 := zm (HR.out.below b5)
                    have HBw5 := zm HS5.out.bel
                    have HO5 := zm k5
                    have o5O0 : W5.cell? ⟨go, 0, none⟩ = some (.int .i64 s.f0) := (blk_cell k5 0).trans rfl
                    have o5O1 : W5.cell? ⟨go, 1, none⟩ = some (.slice Q1 s.f1.length e1) := (blk_cell k5 1).trans rfl
                    clear hzgo_0 fzgo_0 hzgo_1 fzgo_1
                    clear hx0 hx1 hbx hbb hgo k5 b5 hW5 Xgo hbel
                    go_wp2_with (first
                      | (go_at_call 33; (with_reducible refine (show_fun.calls b cur s.f0 Q1 e1 s.f1 w _ HS5.out HI1.out HL1.out HOKS.out HCL.out HG.out).mono ?_); rintro e W8 ⟨rfl, hs⟩; have HS8 := zm hs; clear hs))
                    exact ⟨⟨i + 1, by go_num, by omega, ⟨by rw [HNX.out]; exact HS8.out⟩⟩, by simp [intOf]; omega⟩
                  · have hie : i = s0_2.length := by omega
                    have hfull : s0_2.take i = s0_2 := List.take_of_length_le (by omega)
                    have hge : ¬ ((i : Int) < (s0_2.length : Int)) := by omega
                    have HF := zm hfull
                    have HR2 := zm (show FS w b (s0_0.flatMap sigL ++ s0_1.flatMap clsL ++ s0_2.flatMap funL) wr from by have := HR.out; rw [HF.out] at this; exact this)
                    clear hfull
                    go_wp2_with (first
                      | (go_at_call 34; (with_reducible refine (Tryd.Builder_String_any w.heap.size b (s0_0.flatMap sigL ++ s0_1.flatMap clsL ++ s0_2.flatMap funL) _ HR2.out.bld HR2.out.bel.size).mono ?_); rintro e W9 ⟨rfl, hb9⟩; have HB9 := zm (HR2.out.bel.trans hb9); clear hb9))
                    go_ret
                    exact ⟨by unfold progL; rw [List.append_assoc]; rfl, HB9.out⟩
theorem show_Prog.calls (g : Nat) (s0_0 : List (S52)) (s0_1 : List (S54)) (s0_2 : List (S44)) (r : ByteArray) (w0 w : World) (hI : IsS34 w0 w g s0_0 s0_1 s0_2) (hB : Below w0.heap.size w0 w) (h : show_Prog.f s0_0 s0_1 s0_2 = some r) (hG : Door.Laid w0) :
    Calls Tryd.prog 14 #[.pointer (some ⟨g, 0, none⟩)] w fun e w' => e = .returned (.string r) ∧ IsS34 w0 w' g s0_0 s0_1 s0_2 ∧ Below w0.heap.size w0 w' ∧ KeepBut w w' g none := by
  unfold show_Prog.f at h
  split at h
  rotate_left
  · cases h
  rename_i hok
  obtain ⟨h0, h1, h2, hlen⟩ := hok
  obtain rfl := Option.some.inj h
  obtain ⟨B0, d0, B1, d1, B2, d2, hb, hg, q0, q1, q2⟩ := id hI
  refine (show_Prog_w g B0 B1 B2 d0 d1 d2 s0_0 s0_1 s0_2 w hb (Kd.C_below q0 hB) (Kd.C_below q1 hB) (Kd.C_below q2 hB) h0 h1 h2 hlen (hG.on hB)).mono ?_
  rintro e w' ⟨rfl, k⟩
  exact ⟨rfl, IsS34.below hI k, below_then hB hB.size k, KeepBut.of_below k g none⟩


/-! ### hallmarkref06_word: function 20 -/
mutual
def hallmarkref06_word.l0 : Nat → ByteArray → Int → Int → Int → Int → Option (ByteArray)
 | 0, _, _, _, _, _ => none
 | k + 1, x0, x1, x5, x6, x7 => if x7 ≤ (x0.size : Int) then (if x7 = (x0.size : Int) then (hallmarkref06_word.j1 k x0 x1 x5 x6 x7 true) else (if 0 ≤ x7 then (if x7 < (x0.size : Int) then (hallmarkref06_word.j1 k x0 x1 x5 x6 x7 ((bt x0 x7) == 32)) else (none)) else (none))) else (some (⟨#[63]⟩ : ByteArray))
def hallmarkref06_word.j1 : Nat → ByteArray → Int → Int → Int → Int → Bool → Option (ByteArray)
 | 0, _, _, _, _, _, _ => none
 | k + 1, x0, x1, x5, x6, x7, x23 => if x23 = true then (if x5 = x1 then (if 0 ≤ x6 then (if x6 ≤ x7 then (if x7 ≤ (x0.size : Int) then (some (x0.extract (x6 : Int).toNat (x7 : Int).toNat)) else (none)) else (none)) else (none)) else (hallmarkref06_word.l0 k x0 x1 (wrap64 (x5 + 1)) (wrap64 (x7 + 1)) (wrap64 (x7 + 1)))) else (hallmarkref06_word.l0 k x0 x1 x5 x6 (wrap64 (x7 + 1)))
end
def hallmarkref06_word.f (k : Nat) (a0 : ByteArray) (a1 : Int) : Option (ByteArray) := hallmarkref06_word.l0 k a0 a1 0 0 0
theorem hallmarkref06_word.mono_l : ∀ k, (∀ y0 y1 y2 y3 y4, LeO (hallmarkref06_word.l0 k y0 y1 y2 y3 y4) (hallmarkref06_word.l0 (k + 1) y0 y1 y2 y3 y4)) ∧ (∀ y0 y1 y2 y3 y4 y5, LeO (hallmarkref06_word.j1 k y0 y1 y2 y3 y4 y5) (hallmarkref06_word.j1 (k + 1) y0 y1 y2 y3 y4 y5))
 | 0 => ⟨fun _ _ _ _ _ r h => by simp [hallmarkref06_word.l0] at h, fun _ _ _ _ _ _ r h => by simp [hallmarkref06_word.j1] at h⟩
 | k + 1 => by
  obtain ⟨ih0, ih1⟩ := hallmarkref06_word.mono_l k
  refine ⟨?_, ?_⟩
  ·intro y0 y1 y2 y3 y4
   unfold hallmarkref06_word.l0
   repeat' first
   | (with_reducible exact ih0 _ _ _ _ _)
   | (with_reducible exact ih1 _ _ _ _ _ _)
   | (with_reducible exact LeO.refl _)
   | (with_reducible exact LeO.none _)
   | (with_reducible refine LeO.ite ?_ ?_)
   | (with_reducible refine LeO.bind ?_ (fun _ => ?_))
   | exact ih0 _ _ _ _ _
   | exact ih1 _ _ _ _ _ _
   | exact LeO.none _
   | refine LeO.ite ?_ ?_
   | refine LeO.bind ?_ (fun _ => ?_)
  ·intro y0 y1 y2 y3 y4 y5
   unfold hallmarkref06_word.j1
   repeat' first
   | (with_reducible exact ih0 _ _ _ _ _)
   | (with_reducible exact ih1 _ _ _ _ _ _)
   | (with_reducible exact LeO.refl _)
   | (with_reducible exact LeO.none _)
   | (with_reducible refine LeO.ite ?_ ?_)
   | (with_reducible refine LeO.bind ?_ (fun _ => ?_))
   | exact ih0 _ _ _ _ _
   | exact ih1 _ _ _ _ _ _
   | exact LeO.none _
   | refine LeO.ite ?_ ?_
   | refine LeO.bind ?_ (fun _ => ?_)
theorem hallmarkref06_word.mono : ∀ a0 a1 k, LeO (hallmarkref06_word.f k a0 a1) (hallmarkref06_word.f (k + 1) a0 a1) := by
 intro a0 a1 k
 obtain ⟨ih0, ih1⟩ := hallmarkref06_word.mono_l k
 unfold hallmarkref06_word.f
 repeat' first
   | (with_reducible exact ih0 _ _ _ _ _)
   | (with_reducible exact ih1 _ _ _ _ _ _)
   | (with_reducible exact LeO.refl _)
   | (with_reducible exact LeO.none _)
   | (with_reducible refine LeO.ite ?_ ?_)
   | (with_reducible refine LeO.bind ?_ (fun _ => ?_))
   | exact ih0 _ _ _ _ _
   | exact ih1 _ _ _ _ _ _
   | exact LeO.none _
   | refine LeO.ite ?_ ?_
   | refine LeO.bind ?_ (fun _ => ?_)
set_option maxHeartbeats 8000000 in
set_option maxRecDepth 100000 in
theorem hallmarkref06_word.calls (k : Nat) (a0 : ByteArray) (a1 : Int) (r : ByteArray) (w : World) (h : hallmarkref06_word.f k a0 a1 = some r) :
  Calls Tryd.prog 20 #[.string a0, .int .i64 a1] w fun e w' => e = .returned (.string r) ∧ Drawn0 w w' := by
 have H : (hallmarkref06_word.l0 k a0 a1 0 0 0) = some r := h
 clear h
 have H' := zm H
 clear H
 go_enter Tryd.func20, Tryd.ntmps20
 go_wp2
 go_loopg [5, 6, 7] k (fun kq v5 v6 v7 w' => ∃ (x5_1 : Int) (x6_1 : Int) (x7_1 : Int), v5 = .int .i64 x5_1 ∧ v6 = .int .i64 x6_1 ∧ v7 = .int .i64 x7_1 ∧ Aside0 (hallmarkref06_word.l0 kq a0 a1 x5_1 x6_1 x7_1 = some r) ∧ Aside0 (kq ≤ k) ∧ Drawn0 w w')
 case atStart => exact ⟨(0), (0), (0), (by first | rfl | (simp; done) | (simp [*]; done) | (simp [*, wrap64]; done) | (simp [*]; unfold wrap64; omega)), (by first | rfl | (simp; done) | (simp [*]; done) | (simp [*, wrap64]; done) | (simp [*]; unfold wrap64; omega)), (by first | rfl | (simp; done) | (simp [*]; done) | (simp [*, wrap64]; done) | (simp [*]; unfold wrap64; omega)), H', ⟨Nat.le_refl _⟩, by repeat (first | exact Drawn0.refl _ | apply Drawn0.step)⟩
 case round =>
  clear H'
  try clear c2
  try clear p2
  obtain ⟨x5_1, x6_1, x7_1, rfl, rfl, rfl, HA, HK1, ⟨m1, rfl⟩⟩ := hrel
  cases gk with
  | zero => exact absurd HA.out (by simp [hallmarkref06_word.l0])
  | succ k1 =>
   have H := HA.out
   clear HA
   simp only [hallmarkref06_word.l0] at H
   by_cases c3 : x7_1 ≤ (a0.size : Int)
   ·rw [if_pos c3] at H
    have c3b0 : decide (x7_1 ≤ (a0.size : Int)) = true := decide_eq_true c3
    clear c3
    have HC4 := zm H
    clear H
    go_upto_region 5 with (fail)
    go_cut [23] (fun v23 wc => ∃ (kq : Nat) (x23_3 : Bool), v23 = .bool x23_3 ∧ Aside0 (hallmarkref06_word.j1 kq a0 a1 x5_1 x6_1 x7_1 x23_3 = some r) ∧ Aside0 (kq ≤ k1) ∧ Drawn0 w wc)
    case first =>
     have H := HC4.out
     clear HC4
     by_cases c5 : x7_1 = (a0.size : Int)
     ·rw [if_pos c5] at H
      have c5b0 : (x7_1 == (a0.size : Int)) = true := beq_iff_eq.mpr c5
      have c5b1 : (x7_1 != (a0.size : Int)) = false := bne_eq_false_iff_eq.mpr c5
      clear c5
      (first | rw [c5b0] | (simp only [i64_w, i32_w]; rw [c5b0]) | rw [c5b1] | skip)
      have H' := zm H
      clear H
      go_wp2
      go_meet
      case rel => exact ⟨_, (true), (by first | rfl | (simp; done) | (simp [*]; done) | (simp [*, wrap64]; done) | (simp [*]; unfold wrap64; omega)), H', ⟨by have := HK1.out; first | omega | exact Nat.le_refl _⟩, by repeat (first | exact Drawn0.refl _ | apply Drawn0.step)⟩
     ·rw [if_neg c5] at H
      have c5b0 : (x7_1 == (a0.size : Int)) = false := beq_eq_false_iff_ne.mpr c5
      have c5b1 : (x7_1 != (a0.size : Int)) = true := bne_iff_ne.mpr c5
      (first | rw [c5b0] | (simp only [i64_w, i32_w]; rw [c5b0]) | rw [c5b1] | skip)
      by_cases c6 : 0 ≤ x7_1
      ·rw [if_pos c6] at H
       have c6b0 : decide (0 ≤ x7_1) = true := decide_eq_true c6
       clear c6
       by_cases c7 : x7_1 < (a0.size : Int)
       ·rw [if_pos c7] at H
        have c7b0 : decide (x7_1 < (a0.size : Int)) = true := decide_eq_true c7
        clear c7
        have H' := zm H
        clear H
        have p8 : 0 ≤ (x7_1 : Int) := of_decide_eq_true (by first | (with_reducible assumption) | assumption)
        have q8 : x7_1 < (a0.size : Int) := of_decide_eq_true (by first | (with_reducible assumption) | assumption)
        have hx8 := bt_at a0 x7_1
        replace p8 := eq_true p8
        replace q8 := eq_true q8
        go_wp2
        go_meet
        case rel => exact ⟨_, (((bt a0 x7_1) == 32)), (by first | rfl | (simp; done) | (simp [*]; done) | (simp [*, wrap64]; done) | (simp [*]; unfold wrap64; omega)), H', ⟨by have := HK1.out; first | omega | exact Nat.le_refl _⟩, by repeat (first | exact Drawn0.refl _ | apply Drawn0.step)⟩
       ·rw [if_neg c7] at H
        exact absurd H (by simp)
      ·rw [if_neg c6] at H
       exact absurd H (by simp)
    case rest =>
     clear HC4
     try clear c2
     try clear p2
     try clear c3
     try clear c3b0
     try clear c5
     try clear c5b0
     try clear c5b1
     try clear c6
     try clear c6b0
     try clear c7
     try clear c7b0
     try clear p8
     try clear q8
     try clear hx8
     try clear p2
     try clear p8
     try clear q8
     obtain ⟨kq, x23_3, rfl, HA, HJ3, ⟨mc3, rfl⟩⟩ := hcut
     cases kq with
     | zero => exact absurd HA.out (by simp [hallmarkref06_word.j1])
     | succ kj3 =>
      have H := HA.out
      clear HA
      simp only [hallmarkref06_word.j1] at H
      by_cases c9 : x23_3 = true
      ·subst c9
       have H1 : (if x5_1 = a1 then (if 0 ≤ x6_1 then (if x6_1 ≤ x7_1 then (if x7_1 ≤ (a0.size : Int) then (some (a0.extract (x6_1 : Int).toNat (x7_1 : Int).toNat)) else (none)) else (none)) else (none)) else (hallmarkref06_word.l0 kj3 a0 a1 (wrap64 (x5_1 + 1)) (wrap64 (x7_1 + 1)) (wrap64 (x7_1 + 1)))) = some r := by rw [if_pos rfl] at H; exact H
       clear H
       have H := H1
       clear H1
       by_cases c10 : x5_1 = a1
       ·rw [if_pos c10] at H
        have c10b0 : (x5_1 == a1) = true := beq_iff_eq.mpr c10
        have c10b1 : (x5_1 != a1) = false := bne_eq_false_iff_eq.mpr c10
        clear c10
        by_cases c11 : 0 ≤ x6_1
        ·rw [if_pos c11] at H
         have c11b0 := eq_true c11
         have c11b1 : decide (0 ≤ x6_1) = true := decide_eq_true c11
         clear c11
         by_cases c12 : x6_1 ≤ x7_1
         ·rw [if_pos c12] at H
          have c12b0 := eq_true c12
          have c12b1 : decide (x6_1 ≤ x7_1) = true := decide_eq_true c12
          clear c12
          by_cases c13 : x7_1 ≤ (a0.size : Int)
          ·rw [if_pos c13] at H
           have c13b0 := eq_true c13
           have c13b1 : decide (x7_1 ≤ (a0.size : Int)) = true := decide_eq_true c13
           clear c13
           obtain rfl := Option.some.inj H
           go_wp2
           go_ret
           exact ⟨by first | rfl | (simp; done) | (simp [*]; done), by repeat (first | exact Drawn0.refl _ | apply Drawn0.step)⟩
          ·rw [if_neg c13] at H
           exact absurd H (by simp)
         ·rw [if_neg c12] at H
          exact absurd H (by simp)
        ·rw [if_neg c11] at H
         exact absurd H (by simp)
       ·rw [if_neg c10] at H
        have c10b0 : (x5_1 == a1) = false := beq_eq_false_iff_ne.mpr c10
        have c10b1 : (x5_1 != a1) = true := bne_iff_ne.mpr c10
        have H' := zm H
        clear H
        go_wp2
        go_roundg kj3
        case measure => have := HK1.out; have := HJ3.out; omega
        case rel => exact ⟨(wrap64 (x5_1 + 1)), (wrap64 (x7_1 + 1)), (wrap64 (x7_1 + 1)), (by first | rfl | (simp; done) | (simp [*]; done) | (simp [*, wrap64]; done) | (simp [*]; unfold wrap64; omega)), (by first | rfl | (simp; done) | (simp [*]; done) | (simp [*, wrap64]; done) | (simp [*]; unfold wrap64; omega)), (by first | rfl | (simp; done) | (simp [*]; done) | (simp [*, wrap64]; done) | (simp [*]; unfold wrap64; omega)), H', ⟨by have := HK1.out; have := HJ3.out; omega⟩, by repeat (first | exact Drawn0.refl _ | apply Drawn0.step)⟩
      ·replace c9 := Bool.eq_false_iff.mpr c9
       subst c9
       have H1 : (hallmarkref06_word.l0 kj3 a0 a1 x5_1 x6_1 (wrap64 (x7_1 + 1))) = some r := by rw [if_neg (show ¬ (false = true) by decide)] at H; exact H
       clear H
       have H := H1
       clear H1
       have H' := zm H
       clear H
       go_wp2
       go_roundg kj3
       case measure => have := HK1.out; have := HJ3.out; omega
       case rel => exact ⟨(x5_1), (x6_1), (wrap64 (x7_1 + 1)), (by first | rfl | (simp; done) | (simp [*]; done) | (simp [*, wrap64]; done) | (simp [*]; unfold wrap64; omega)), (by first | rfl | (simp; done) | (simp [*]; done) | (simp [*, wrap64]; done) | (simp [*]; unfold wrap64; omega)), (by first | rfl | (simp; done) | (simp [*]; done) | (simp [*, wrap64]; done) | (simp [*]; unfold wrap64; omega)), H', ⟨by have := HK1.out; have := HJ3.out; omega⟩, by repeat (first | exact Drawn0.refl _ | apply Drawn0.step)⟩
   ·rw [if_neg c3] at H
    have c3b0 : decide (x7_1 ≤ (a0.size : Int)) = false := decide_eq_false c3
    clear c3
    obtain rfl := Option.some.inj H
    go_wp2
    go_ret
    exact ⟨by first | rfl | (simp; done) | (simp [*]; done), by repeat (first | exact Drawn0.refl _ | apply Drawn0.step)⟩

/-! ### hallmarkref02_digits: function 44 -/
theorem q_string_hallmarkref02_digits {P : Program} {w : World} {base : Nat} {ok : Nat → Prop} {src dst e : TypeId} {v : Value} {xs : List Int} (hs : P.underlying src = some (.slice e)) (he : P.underlying e = some (.int .u8)) (hd : P.underlying dst = some .string)
  (h : Kd.Q (Kd.int .u8) e w base ok v xs) : (convert src dst v).run P w = .ok (.string (strOfNums xs)) w := by
 obtain ⟨A, c, rfl, _, hC⟩ := Kd.Q_reads h
 exact Kd.C_string hs he hd hC
def hallmarkref02_digits.f : Nat → Int → Option (ByteArray)
 | 0, _ => none
 | k + 1, a0 => (some (([(48 + ((Int.tmod a0 10) % 256)) % 256] : List Int) : List Int)).bind fun y141 => (if a0 ≥ 10 then ((hallmarkref02_digits.f k (IntKind.u64.wrap (Int.tdiv a0 10))).bind fun t144 => (if t144.size + (strOfNums y141).size ≤ 9223372036854775807 then (some (t144 ++ (strOfNums y141))) else (none))) else (some (strOfNums y141)))
theorem hallmarkref02_digits.mono_l : ∀ k, (∀ y0, LeO (hallmarkref02_digits.f k y0) (hallmarkref02_digits.f (k + 1) y0))
 | 0 => fun _ r h => by simp [hallmarkref02_digits.f] at h
 | k + 1 => by
  have ih0 := hallmarkref02_digits.mono_l k
  ·intro y0
   unfold hallmarkref02_digits.f
   repeat' first
   | (with_reducible exact ih0 _)
   | (with_reducible exact LeO.refl _)
   | (with_reducible exact LeO.none _)
   | (with_reducible refine LeO.ite ?_ ?_)
   | (with_reducible refine LeO.bind ?_ (fun _ => ?_))
   | exact ih0 _
   | exact LeO.none _
   | refine LeO.ite ?_ ?_
   | refine LeO.bind ?_ (fun _ => ?_)
theorem hallmarkref02_digits.mono : ∀ a0 k, LeO (hallmarkref02_digits.f k a0) (hallmarkref02_digits.f (k + 1) a0) := by
 intro a0 k
 have ih0 := hallmarkref02_digits.mono_l k
 exact ih0 a0
set_option maxHeartbeats 8000000 in
set_option maxRecDepth 100000 in
theorem hallmarkref02_digits.calls (k : Nat) : ∀ (a0 : Int) (r : ByteArray) (w : World) (h : hallmarkref02_digits.f k a0 = some r),
  Calls Tryd.prog 44 #[.int .u64 a0] w fun e w' => e = .returned (.string r) ∧ Below w.heap.size w w' := by
 induction k using Nat.strongRecOn with
 | _ k ih =>
 intro a0 r w h
 cases k with
 | zero => exact absurd h (by simp [hallmarkref02_digits.f])
 | succ k =>
 simp only [hallmarkref02_digits.f] at h
 have HB := zm (Below.refl w.heap.size w)
 have H : ((some (([(48 + ((Int.tmod a0 10) % 256)) % 256] : List Int) : List Int)).bind fun y141 => (if a0 ≥ 10 then ((hallmarkref02_digits.f k (IntKind.u64.wrap (Int.tdiv a0 10))).bind fun t144 => (if t144.size + (strOfNums y141).size ≤ 9223372036854775807 then (some (t144 ++ (strOfNums y141))) else (none))) else (some (strOfNums y141)))) = some r := h
 clear h
 obtain ⟨y141, hy141⟩ : ∃ y_ : List Int, y_ = (([(48 + ((Int.tmod a0 10) % 256)) % 256] : List Int)) := ⟨_, rfl⟩
 replace H : (if a0 ≥ 10 then ((hallmarkref02_digits.f k (IntKind.u64.wrap (Int.tdiv a0 10))).bind fun t144 => (if t144.size + (strOfNums y141).size ≤ 9223372036854775807 then (some (t144 ++ (strOfNums y141))) else (none))) else (some (strOfNums y141))) = some r := by first | (rw [hy141]; with_reducible exact H) | (have H2_ := (Option.bind_some _ _).symm.trans H; rw [hy141]; with_reducible exact H2_) | (have H2_ := (Option.bind_some _ _).symm.trans H; with_reducible exact H2_) | with_reducible exact H | (rw [hy141]; exact H) | exact H
 have Ny141 := zm hy141
 clear hy141
 by_cases c2 : a0 ≥ 10
 ·rw [if_pos c2] at H
  have c2b0 : decide (10 ≤ a0) = true := decide_eq_true c2
  clear c2
  replace H := Option.bind_eq_some_iff.mp H
  obtain ⟨t144, A30, H⟩ := H
  replace H : (if t144.size + (strOfNums y141).size ≤ 9223372036854775807 then (some (t144 ++ (strOfNums y141))) else (none)) = some r := H
  have A3 := zm A30
  clear A30
  by_cases c4 : t144.size + (strOfNums y141).size ≤ 9223372036854775807
  ·rw [if_pos c4] at H
   have c4b0 := eq_true c4
   have c4b1 : decide (t144.size + (strOfNums y141).size ≤ 9223372036854775807) = true := decide_eq_true c4
   try have c4b2 : (9223372036854775807 < t144.size + (strOfNums y141).size) = False := eq_false (Nat.not_lt.2 c4)
   obtain rfl := Option.some.inj H
   go_enter Tryd.func44, Tryd.ntmps44
   go_wp2_with (first | ((with_reducible refine gate_dst (N := 8) rfl ?_); refine Kd.R_lit (Kd.int .u8) _ 5 ?hg (N := 8) ?hd (xs := ([(48 + ((Int.tmod a0 10) % 256)) % 256] : List Int)) (inner := [.int .u8 ((48 + ((Int.tmod a0 10) % 256)) % 256)]) (ok := fun _ => True) (okp := fun _ => True) ?hr ?hp (fun _ hk => hk) trivial (Below.refl _ _) (Nat.le_refl _) (by simp) ?_; (case hd => rfl); (case hg => rfl); (case hr => first | (go_simp; done) | (go_simp; rfl)); (case hp => exact (Reps.one (show Kd.M (Kd.int .u8) _ _ _ ((48 + ((Int.tmod a0 10) % 256)) % 256) [.int .u8 ((48 + ((Int.tmod a0 10) % 256)) % 256)] from rfl) (Reps.none _ _))); intro v142 w5 ho6 hb hg_ hnew_; clear hg_ hnew_; (first | rw [← Ny141.out] at ho6 | (simp only [Int.reduceToNat] at ho6; rw [← Ny141.out] at ho6)); have n0_ := zm (Kd.R_lower ho6 (below_size (by repeat (first | (with_reducible first | exact HB.out | apply below_alloc | apply pw_below_drewN | apply below_drew1) | exact HB.out)))); have n1_ := zm (below_step (by repeat (first | (with_reducible first | exact HB.out | apply below_alloc | apply pw_below_drewN | apply below_drew1) | exact HB.out)) hb); clear HB; have HO143 := n0_; have HB := n1_; clear n0_ n1_; clear hb ho6; (first | have hcv7 := own_string (P := Tryd.prog) Tryd.underlying60 Tryd.underlying5 Tryd.underlying9 (Kd.own_of_R HO143.out) | have hcv7 := q_string_hallmarkref02_digits (P := Tryd.prog) Tryd.underlying60 Tryd.underlying5 Tryd.underlying9 HO143.out)) | ((with_reducible refine gate_callee (f := 44) rfl ?_); refine goesL_ (some 14) rfl rfl Tryd.func44 (by kernel_rfl) rfl #[.int .u64 (IntKind.u64.wrap (Int.tdiv a0 10))] rfl (by (try simp only [List.map_toArray, List.map_cons, List.map_nil]); first | done | rfl | (simp only [List.length_drop, List.length_take]; rfl)) ?_; (with_reducible refine (ih k (by omega) (IntKind.u64.wrap (Int.tdiv a0 10)) t144 _ A3.out).mono ?_); rintro e w8 ⟨rfl, hb⟩; refine ⟨_, rfl, ?_⟩; have n0_ := zm (Kd.R_below (by (with_reducible repeat (first | apply Kd.R_alloc | apply Kd.R_drewN | apply Kd.R_drew)); exact HO143.out) hb); have n1_ := zm (below_step (by repeat (first | (with_reducible first | exact HB.out | apply below_alloc | apply pw_below_drewN | apply below_drew1) | exact HB.out)) hb); clear HO143; clear HB; have HO143 := n0_; have HB := n1_; clear n0_ n1_; (try clear hb); (try clear hb2); (try clear hk); (try clear hi)))
   go_ret
   exact ⟨by first | rfl | (simp [errW_none, errW_some] <;> rfl) | (simp [*, errW_none, errW_some] <;> rfl), by repeat (first | (with_reducible first | exact HB.out | apply below_alloc | apply pw_below_drewN | apply below_drew1) | exact HB.out)⟩
  ·rw [if_neg c4] at H
   exact absurd H (by simp)
 ·rw [if_neg c2] at H
  have c2b0 : decide (10 ≤ a0) = false := decide_eq_false c2
  clear c2
  obtain rfl := Option.some.inj H
  go_enter Tryd.func44, Tryd.ntmps44
  go_wp2_with (first | ((with_reducible refine gate_dst (N := 8) rfl ?_); refine Kd.R_lit (Kd.int .u8) _ 5 ?hg (N := 8) ?hd (xs := ([(48 + ((Int.tmod a0 10) % 256)) % 256] : List Int)) (inner := [.int .u8 ((48 + ((Int.tmod a0 10) % 256)) % 256)]) (ok := fun _ => True) (okp := fun _ => True) ?hr ?hp (fun _ hk => hk) trivial (Below.refl _ _) (Nat.le_refl _) (by simp) ?_; (case hd => rfl); (case hg => rfl); (case hr => first | (go_simp; done) | (go_simp; rfl)); (case hp => exact (Reps.one (show Kd.M (Kd.int .u8) _ _ _ ((48 + ((Int.tmod a0 10) % 256)) % 256) [.int .u8 ((48 + ((Int.tmod a0 10) % 256)) % 256)] from rfl) (Reps.none _ _))); intro v142 w9 ho10 hb hg_ hnew_; clear hg_ hnew_; (first | rw [← Ny141.out] at ho10 | (simp only [Int.reduceToNat] at ho10; rw [← Ny141.out] at ho10)); have n0_ := zm (Kd.R_lower ho10 (below_size (by repeat (first | (with_reducible first | exact HB.out | apply below_alloc | apply pw_below_drewN | apply below_drew1) | exact HB.out)))); have n1_ := zm (below_step (by repeat (first | (with_reducible first | exact HB.out | apply below_alloc | apply pw_below_drewN | apply below_drew1) | exact HB.out)) hb); clear HB; have HO143 := n0_; have HB := n1_; clear n0_ n1_; clear hb ho10; (first | have hcv11 := own_string (P := Tryd.prog) Tryd.underlying60 Tryd.underlying5 Tryd.underlying9 (Kd.own_of_R HO143.out) | have hcv11 := q_string_hallmarkref02_digits (P := Tryd.prog) Tryd.underlying60 Tryd.underlying5 Tryd.underlying9 HO143.out)))
  go_ret
  exact ⟨by first | rfl | (simp [errW_none, errW_some] <;> rfl) | (simp [*, errW_none, errW_some] <;> rfl), by repeat (first | (with_reducible first | exact HB.out | apply below_alloc | apply pw_below_drewN | apply below_drew1) | exact HB.out)⟩

/-! ### hallmarkref01_Bit: function 79 -/
def hallmarkref01_Bit.f (a0 : Int) (a1 : Int) : Option (Int) := if 0 ≤ (IntKind.u64.wrap (a1)) then (some (Int.tmod (shr .u64 a0 (IntKind.u64.wrap (a1))) 2)) else (none)
set_option maxHeartbeats 8000000 in
set_option maxRecDepth 100000 in
theorem hallmarkref01_Bit.calls (a0 : Int) (a1 : Int) (r : Int) (w : World) (h : hallmarkref01_Bit.f a0 a1 = some r) :
  Calls Tryd.prog 79 #[.int .u64 a0, .int .i64 a1] w fun e w' => e = .returned (.int .u64 r) ∧ Drawn0 w w' := by
 have H : (if 0 ≤ (IntKind.u64.wrap (a1)) then (some (Int.tmod (shr .u64 a0 (IntKind.u64.wrap (a1))) 2)) else (none)) = some r := h
 clear h
 obtain ⟨ji3, hji3⟩ : ∃ j_ : Int, (IntKind.u64.wrap (a1)) = j_ := ⟨_, rfl⟩
 replace H : (if 0 ≤ (ji3) then (some (Int.tmod (shr .u64 a0 (ji3)) 2)) else (none)) = some r := by first | (rw [hji3] at H; exact H) | (simp only [hji3] at H ⊢; exact H)
 by_cases c4 : 0 ≤ (ji3)
 ·rw [if_pos c4] at H
  have c4b0 := eq_true c4
  have c4b1 : decide (0 ≤ (ji3)) = true := decide_eq_true c4
  clear c4
  obtain ⟨ji5, hji5⟩ : ∃ j_ : Int, (shr .u64 a0 (ji3)) = j_ := ⟨_, rfl⟩
  replace H : (some (Int.tmod (ji5) 2)) = some r := by first | (rw [hji5] at H; exact H) | (simp only [hji5] at H ⊢; exact H)
  have hji5_ : (a0 / 2 ^ min (ji3).toNat 64) = ji5 := hji5
  have hji5z : (ji3) ≤ 64 → (a0 / 2 ^ (ji3).toNat) = ji5 := shr_small hji5
  obtain rfl := Option.some.inj H
  go_enter Tryd.func79, Tryd.ntmps79
  go_wp2
  go_ret
  exact ⟨by first | rfl | (simp; done) | (simp only [← hji3, ← hji5] <;> (first | rfl | (simp; done))) | (simp [*]; done), by repeat (first | exact Drawn0.refl _ | apply Drawn0.step)⟩
 ·rw [if_neg c4] at H
  exact absurd H (by simp)

/-! ### hallmarkref01_plus: function 72 -/
def hallmarkref01_plus.l0 : Nat → Int → Int → Int → Int → Int → Option (Int)
 | 0, _, _, _, _, _ => none
 | k + 1, x0, x1, x5, x6, x7 => if x7 < 64 then ((hallmarkref01_Bit.f x0 x7).bind fun t145 => ((hallmarkref01_Bit.f x1 x7).bind fun t146 => (if 0 ≤ (IntKind.u64.wrap (x7)) then (hallmarkref01_plus.l0 k x0 x1 (Go.bits .or .u64 x5 (shl .u64 (Int.tmod (IntKind.u64.wrap ((IntKind.u64.wrap (t145 + t146)) + x6)) 2) (IntKind.u64.wrap (x7)))) (IntKind.u64.wrap (Int.tdiv (IntKind.u64.wrap ((IntKind.u64.wrap (t145 + t146)) + x6)) 2)) (wrap64 (x7 + 1))) else (none)))) else (some x5)
def hallmarkref01_plus.f (k : Nat) (a0 : Int) (a1 : Int) : Option (Int) := hallmarkref01_plus.l0 k a0 a1 0 0 0
theorem hallmarkref01_plus.mono_l : ∀ k, (∀ y0 y1 y2 y3 y4, LeO (hallmarkref01_plus.l0 k y0 y1 y2 y3 y4) (hallmarkref01_plus.l0 (k + 1) y0 y1 y2 y3 y4))
 | 0 => fun _ _ _ _ _ r h => by simp [hallmarkref01_plus.l0] at h
 | k + 1 => by
  have ih0 := hallmarkref01_plus.mono_l k
  ·intro y0 y1 y2 y3 y4
   unfold hallmarkref01_plus.l0
   repeat' first
   | (with_reducible exact ih0 _ _ _ _ _)
   | (with_reducible exact LeO.refl _)
   | (with_reducible exact LeO.none _)
   | (with_reducible refine LeO.ite ?_ ?_)
   | (with_reducible refine LeO.bind ?_ (fun _ => ?_))
   | exact ih0 _ _ _ _ _
   | exact LeO.none _
   | refine LeO.ite ?_ ?_
   | refine LeO.bind ?_ (fun _ => ?_)
theorem hallmarkref01_plus.mono : ∀ a0 a1 k, LeO (hallmarkref01_plus.f k a0 a1) (hallmarkref01_plus.f (k + 1) a0 a1) := by
 intro a0 a1 k
 have ih0 := hallmarkref01_plus.mono_l k
 unfold hallmarkref01_plus.f
 repeat' first
   | (with_reducible exact ih0 _ _ _ _ _)
   | (with_reducible exact LeO.refl _)
   | (with_reducible exact LeO.none _)
   | (with_reducible refine LeO.ite ?_ ?_)
   | (with_reducible refine LeO.bind ?_ (fun _ => ?_))
   | exact ih0 _ _ _ _ _
   | exact LeO.none _
   | refine LeO.ite ?_ ?_
   | refine LeO.bind ?_ (fun _ => ?_)
set_option maxHeartbeats 8000000 in
set_option maxRecDepth 100000 in
theorem hallmarkref01_plus.calls (k : Nat) (a0 : Int) (a1 : Int) (r : Int) (w : World) (h : hallmarkref01_plus.f k a0 a1 = some r) :
  Calls Tryd.prog 72 #[.int .u64 a0, .int .u64 a1] w fun e w' => e = .returned (.int .u64 r) ∧ Drawn0 w w' := by
 have H : (hallmarkref01_plus.l0 k a0 a1 0 0 0) = some r := h
 clear h
 have H' := zm H
 clear H
 go_enter Tryd.func72, Tryd.ntmps72
 go_wp2
 go_loopg [5, 6, 7] k (fun kq v5 v6 v7 w' => ∃ (x5_1 : Int) (x6_1 : Int) (x7_1 : Int), v5 = .int .u64 x5_1 ∧ v6 = .int .u64 x6_1 ∧ v7 = .int .i64 x7_1 ∧ Aside0 (hallmarkref01_plus.l0 kq a0 a1 x5_1 x6_1 x7_1 = some r) ∧ Aside0 (kq ≤ k) ∧ Drawn0 w w')
 case atStart => exact ⟨(0), (0), (0), (by first | rfl | (simp; done) | (simp [*]; done) | (simp [*, wrap64]; done) | (simp [*]; unfold wrap64; omega)), (by first | rfl | (simp; done) | (simp [*]; done) | (simp [*, wrap64]; done) | (simp [*]; unfold wrap64; omega)), (by first | rfl | (simp; done) | (simp [*]; done) | (simp [*, wrap64]; done) | (simp [*]; unfold wrap64; omega)), H', ⟨Nat.le_refl _⟩, by repeat (first | exact Drawn0.refl _ | apply Drawn0.step)⟩
 case round =>
  clear H'
  try clear p2
  obtain ⟨x5_1, x6_1, x7_1, rfl, rfl, rfl, HA, HK1, ⟨m1, rfl⟩⟩ := hrel
  cases gk with
  | zero => exact absurd HA.out (by simp [hallmarkref01_plus.l0])
  | succ k1 =>
   have H := HA.out
   clear HA
   simp only [hallmarkref01_plus.l0] at H
   by_cases c3 : x7_1 < 64
   ·rw [if_pos c3] at H
    have c3b0 : decide (x7_1 < 64) = true := decide_eq_true c3
    clear c3
    replace H := Option.bind_eq_some_iff.mp H
    obtain ⟨t145, A40, H⟩ := H
    replace H : ((hallmarkref01_Bit.f a1 x7_1).bind fun t146 => (if 0 ≤ (IntKind.u64.wrap (x7_1)) then (hallmarkref01_plus.l0 k1 a0 a1 (Go.bits .or .u64 x5_1 (shl .u64 (Int.tmod (IntKind.u64.wrap ((IntKind.u64.wrap (t145 + t146)) + x6_1)) 2) (IntKind.u64.wrap (x7_1)))) (IntKind.u64.wrap (Int.tdiv (IntKind.u64.wrap ((IntKind.u64.wrap (t145 + t146)) + x6_1)) 2)) (wrap64 (x7_1 + 1))) else (none))) = some r := H
    have A4 := zm A40
    clear A40
    replace H := Option.bind_eq_some_iff.mp H
    obtain ⟨t146, A50, H⟩ := H
    replace H : (if 0 ≤ (IntKind.u64.wrap (x7_1)) then (hallmarkref01_plus.l0 k1 a0 a1 (Go.bits .or .u64 x5_1 (shl .u64 (Int.tmod (IntKind.u64.wrap ((IntKind.u64.wrap (t145 + t146)) + x6_1)) 2) (IntKind.u64.wrap (x7_1)))) (IntKind.u64.wrap (Int.tdiv (IntKind.u64.wrap ((IntKind.u64.wrap (t145 + t146)) + x6_1)) 2)) (wrap64 (x7_1 + 1))) else (none)) = some r := H
    have A5 := zm A50
    clear A50
    obtain ⟨ji6, hji6⟩ : ∃ j_ : Int, (IntKind.u64.wrap (x7_1)) = j_ := ⟨_, rfl⟩
    replace H : (if 0 ≤ (ji6) then (hallmarkref01_plus.l0 k1 a0 a1 (Go.bits .or .u64 x5_1 (shl .u64 (Int.tmod (IntKind.u64.wrap ((IntKind.u64.wrap (t145 + t146)) + x6_1)) 2) (ji6))) (IntKind.u64.wrap (Int.tdiv (IntKind.u64.wrap ((IntKind.u64.wrap (t145 + t146)) + x6_1)) 2)) (wrap64 (x7_1 + 1))) else (none)) = some r := by first | (rw [hji6] at H; exact H) | (simp only [hji6] at H ⊢; exact H)
    (try rw [hji6] at A4)
    (try rw [hji6] at A5)
    by_cases c7 : 0 ≤ (ji6)
    ·rw [if_pos c7] at H
     have c7b0 := eq_true c7
     have c7b1 : decide (0 ≤ (ji6)) = true := decide_eq_true c7
     clear c7
     obtain ⟨ji8, hji8⟩ : ∃ j_ : Int, (shl .u64 (Int.tmod (IntKind.u64.wrap ((IntKind.u64.wrap (t145 + t146)) + x6_1)) 2) (ji6)) = j_ := ⟨_, rfl⟩
     replace H : (hallmarkref01_plus.l0 k1 a0 a1 (Go.bits .or .u64 x5_1 (ji8)) (IntKind.u64.wrap (Int.tdiv (IntKind.u64.wrap ((IntKind.u64.wrap (t145 + t146)) + x6_1)) 2)) (wrap64 (x7_1 + 1))) = some r := by first | (rw [hji8] at H; exact H) | (simp only [hji8] at H ⊢; exact H)
     (try rw [hji8] at A4)
     (try rw [hji8] at A5)
     have hji8_ : (IntKind.u64.wrap ((Int.tmod (IntKind.u64.wrap ((IntKind.u64.wrap (t145 + t146)) + x6_1)) 2) * 2 ^ min (ji6).toNat 64)) = ji8 := hji8
     have hji8z : (ji6) ≤ 64 → (IntKind.u64.wrap ((Int.tmod (IntKind.u64.wrap ((IntKind.u64.wrap (t145 + t146)) + x6_1)) 2) * 2 ^ (ji6).toNat)) = ji8 := shl_small hji8
     have H' := zm H
     clear H
     go_wp2_with (first | ((with_reducible refine gate_callee (f := 79) rfl ?_); refine goesL_ (some 15) rfl rfl Tryd.func79 (by kernel_rfl) rfl #[.int .u64 a0, .int .i64 x7_1] rfl (by (try simp only [List.map_toArray, List.map_cons, List.map_nil]); first | done | rfl | (simp only [List.length_drop, List.length_take]; rfl)) ?_; (with_reducible refine (hallmarkref01_Bit.calls a0 x7_1 t145 _ A4.out).mono ?_); rintro e w' ⟨rfl, ⟨nd, rfl⟩⟩; refine ⟨_, rfl, ?_⟩) | ((with_reducible refine gate_callee (f := 79) rfl ?_); refine goesL_ (some 18) rfl rfl Tryd.func79 (by kernel_rfl) rfl #[.int .u64 a1, .int .i64 x7_1] rfl (by (try simp only [List.map_toArray, List.map_cons, List.map_nil]); first | done | rfl | (simp only [List.length_drop, List.length_take]; rfl)) ?_; (with_reducible refine (hallmarkref01_Bit.calls a1 x7_1 t146 _ A5.out).mono ?_); rintro e w' ⟨rfl, ⟨nd, rfl⟩⟩; refine ⟨_, rfl, ?_⟩))
     go_roundg k1
     case measure => have := HK1.out; omega
     case rel => exact ⟨(Go.bits .or .u64 x5_1 (ji8)), (IntKind.u64.wrap (Int.tdiv (IntKind.u64.wrap ((IntKind.u64.wrap (t145 + t146)) + x6_1)) 2)), (wrap64 (x7_1 + 1)), (by first | rfl | (simp; done) | (simp only [← hji8] <;> (first | rfl | (simp; done))) | (simp [*]; done)), (by first | rfl | (simp; done) | (simp [*]; done) | (simp [*, wrap64]; done) | (simp [*]; unfold wrap64; omega)), (by first | rfl | (simp; done) | (simp [*]; done) | (simp [*, wrap64]; done) | (simp [*]; unfold wrap64; omega)), H', ⟨by have := HK1.out; omega⟩, by repeat (first | exact Drawn0.refl _ | apply Drawn0.step)⟩
    ·rw [if_neg c7] at H
     exact absurd H (by simp)
   ·rw [if_neg c3] at H
    have c3b0 : decide (x7_1 < 64) = false := decide_eq_false c3
    clear c3
    obtain rfl := Option.some.inj H
    go_wp2
    go_ret
    exact ⟨by first | rfl | (simp; done) | (simp [*]; done), by repeat (first | exact Drawn0.refl _ | apply Drawn0.step)⟩

/-! ### hallmarkref01_minus: function 62 -/
def hallmarkref01_minus.f (k : Nat) (a0 : Int) : Option (Int) := (hallmarkref01_plus.f k (Go.bits .xor .u64 a0 18446744073709551615) 1).bind fun t147 => (some t147)
theorem hallmarkref01_minus.mono : ∀ a0 k, LeO (hallmarkref01_minus.f k a0) (hallmarkref01_minus.f (k + 1) a0) := by
 intro a0 k
 unfold hallmarkref01_minus.f
 repeat' first
   | (with_reducible exact hallmarkref01_plus.mono _ _ _)
   | (with_reducible exact LeO.refl _)
   | (with_reducible exact LeO.none _)
   | (with_reducible refine LeO.ite ?_ ?_)
   | (with_reducible refine LeO.bind ?_ (fun _ => ?_))
   | exact hallmarkref01_plus.mono _ _ _
   | exact LeO.none _
   | refine LeO.ite ?_ ?_
   | refine LeO.bind ?_ (fun _ => ?_)
set_option maxHeartbeats 8000000 in
set_option maxRecDepth 100000 in
theorem hallmarkref01_minus.calls (k : Nat) (a0 : Int) (r : Int) (w : World) (h : hallmarkref01_minus.f k a0 = some r) :
  Calls Tryd.prog 62 #[.int .u64 a0] w fun e w' => e = .returned (.int .u64 r) ∧ Drawn0 w w' := by
 have H : ((hallmarkref01_plus.f k (Go.bits .xor .u64 a0 18446744073709551615) 1).bind fun t147 => (some t147)) = some r := h
 clear h
 replace H := Option.bind_eq_some_iff.mp H
 obtain ⟨t147, A20, H⟩ := H
 replace H : (some t147) = some r := H
 have A2 := zm A20
 clear A20
 obtain rfl := Option.some.inj H
 go_enter Tryd.func62, Tryd.ntmps62
 go_wp2_with (first | ((with_reducible refine gate_callee (f := 72) rfl ?_); refine goesL_ (some 5) rfl rfl Tryd.func72 (by kernel_rfl) rfl #[.int .u64 (Go.bits .xor .u64 a0 18446744073709551615), .int .u64 1] rfl (by (try simp only [List.map_toArray, List.map_cons, List.map_nil]); first | done | rfl | (simp only [List.length_drop, List.length_take]; rfl)) ?_; (with_reducible refine (hallmarkref01_plus.calls k (Go.bits .xor .u64 a0 18446744073709551615) 1 t147 _ A2.out).mono ?_); rintro e w' ⟨rfl, ⟨nd, rfl⟩⟩; refine ⟨_, rfl, ?_⟩))
 go_ret
 exact ⟨by first | rfl | (simp; done) | (simp [*]; done), by repeat (first | exact Drawn0.refl _ | apply Drawn0.step)⟩

/-! ### hallmarkref01_Size: function 45 -/
def hallmarkref01_Size.f (k : Nat) (a0 : Int) : Option (Int) := if a0 < 0 then ((hallmarkref01_minus.f k (IntKind.u64.wrap (a0))).bind fun t148 => (some t148)) else (some (IntKind.u64.wrap (a0)))
theorem hallmarkref01_Size.mono : ∀ a0 k, LeO (hallmarkref01_Size.f k a0) (hallmarkref01_Size.f (k + 1) a0) := by
 intro a0 k
 unfold hallmarkref01_Size.f
 repeat' first
   | (with_reducible exact hallmarkref01_minus.mono _ _)
   | (with_reducible exact LeO.refl _)
   | (with_reducible exact LeO.none _)
   | (with_reducible refine LeO.ite ?_ ?_)
   | (with_reducible refine LeO.bind ?_ (fun _ => ?_))
   | exact hallmarkref01_minus.mono _ _
   | exact LeO.none _
   | refine LeO.ite ?_ ?_
   | refine LeO.bind ?_ (fun _ => ?_)
set_option maxHeartbeats 8000000 in
set_option maxRecDepth 100000 in
theorem hallmarkref01_Size.calls (k : Nat) (a0 : Int) (r : Int) (w : World) (h : hallmarkref01_Size.f k a0 = some r) :
  Calls Tryd.prog 45 #[.int .i64 a0] w fun e w' => e = .returned (.int .u64 r) ∧ Drawn0 w w' := by
 have H : (if a0 < 0 then ((hallmarkref01_minus.f k (IntKind.u64.wrap (a0))).bind fun t148 => (some t148)) else (some (IntKind.u64.wrap (a0)))) = some r := h
 clear h
 by_cases c2 : a0 < 0
 ·rw [if_pos c2] at H
  have c2b0 : decide (a0 < 0) = true := decide_eq_true c2
  clear c2
  replace H := Option.bind_eq_some_iff.mp H
  obtain ⟨t148, A30, H⟩ := H
  replace H : (some t148) = some r := H
  have A3 := zm A30
  clear A30
  obtain rfl := Option.some.inj H
  go_enter Tryd.func45, Tryd.ntmps45
  go_wp2_with (first | ((with_reducible refine gate_callee (f := 62) rfl ?_); refine goesL_ (some 7) rfl rfl Tryd.func62 (by kernel_rfl) rfl #[.int .u64 (IntKind.u64.wrap (a0))] rfl (by (try simp only [List.map_toArray, List.map_cons, List.map_nil]); first | done | rfl | (simp only [List.length_drop, List.length_take]; rfl)) ?_; (with_reducible refine (hallmarkref01_minus.calls k (IntKind.u64.wrap (a0)) t148 _ A3.out).mono ?_); rintro e w' ⟨rfl, ⟨nd, rfl⟩⟩; refine ⟨_, rfl, ?_⟩))
  go_ret
  exact ⟨by first | rfl | (simp; done) | (simp [*]; done), by repeat (first | exact Drawn0.refl _ | apply Drawn0.step)⟩
 ·rw [if_neg c2] at H
  have c2b0 : decide (a0 < 0) = false := decide_eq_false c2
  clear c2
  obtain rfl := Option.some.inj H
  go_enter Tryd.func45, Tryd.ntmps45
  go_wp2
  go_ret
  exact ⟨by first | rfl | (simp; done) | (simp [*]; done), by repeat (first | exact Drawn0.refl _ | apply Drawn0.step)⟩

end Go.Proofs.YtojmepkhbebllaaDoor.PShowProgs
