-- written by wip/print2.py
import Derived.Test.YtojmepkhbebllaaDoorPShowProgsx0
import Derived.Test.YtojmepkhbebllaaDoorPShowProgsx3
import Derived.Test.YtojmepkhbebllaaDoorPShowProgsx4
import Derived.Test.YtojmepkhbebllaaDoorPShowProgsx6
import Derived.Test.YtojmepkhbebllaaDoorPShowProgsx7
import Derived.Test.YtojmepkhbebllaaDoorPShowProgsx13
import Derived.Test.YtojmepkhbebllaaDoorPShowProgsx14
namespace Go.Proofs.YtojmepkhbebllaaDoor.PShowProgs
open Go.RowKit Go.Proofs.YtojmepkhbebllaaDoorW.PrintWords Go.Proofs.YtojmepkhbebllaaDoorW.PrintLast Go.Proofs.YtojmepkhbebllaaDoorW.PrintMore
attribute [local go_sem] max2_int min2_int max_two min_two max_three min_three max_four min_four   -- for this text's walks alone
set_option linter.unusedVariables false
set_option linter.unusedSimpArgs false

/-! ### hallmarklaw06_ShowProgs: function 6 -/
def hallmarklaw06_ShowProgs.l0 : Nat → Int → List (S52) → List (S54) → List (S44) → Option (Bool)
 | 0, _, _, _, _ => none
 | k + 1, x4, x232000, x232001, x232002 => if x4 < (x232002.length : Int) then (if 0 ≤ x4 then ((show_Func.f ((rd_T44 x232002 x4).f0) ((rd_T44 x232002 x4).f1)).bind fun t238 => ((hallmarkref06_Func.f k ((rd_T44 x232002 x4).f0) ((rd_T44 x232002 x4).f1)).bind fun t240 => (if t238.toList = t240.toList then (hallmarklaw06_ShowProgs.l0 k (wrap64 (x4 + 1)) x232000 x232001 x232002) else (none)))) else (none)) else ((hallmarklaw06_lives.f).bind fun t236 => (some t236))
def hallmarklaw06_ShowProgs.f (k : Nat) (l0_0 : List (S52)) (l0_1 : List (S54)) (l0_2 : List (S44)) : Option (Bool) := (hallmarkref05_Small.f k l0_0 l0_1 l0_2 1500).bind fun t232 => (if t232 = true then ((show_Prog.f l0_0 l0_1 l0_2).bind fun t234 => ((hallmarkref06_Prog.f k l0_0 l0_1 l0_2).bind fun t235 => (if t234.toList = t235.toList then (hallmarklaw06_ShowProgs.l0 k 0 l0_0 l0_1 l0_2) else (none)))) else ((hallmarklaw06_lives.f).bind fun t233 => (some t233)))
theorem hallmarklaw06_ShowProgs.mono_l : ∀ k, (∀ y0 y1 y2 y3, LeO (hallmarklaw06_ShowProgs.l0 k y0 y1 y2 y3) (hallmarklaw06_ShowProgs.l0 (k + 1) y0 y1 y2 y3))
 | 0 => fun _ _ _ _ r h => by simp [hallmarklaw06_ShowProgs.l0] at h
 | k + 1 => by
  have ih0 := hallmarklaw06_ShowProgs.mono_l k
  ·intro y0 y1 y2 y3
   unfold hallmarklaw06_ShowProgs.l0
   repeat' first
   | (with_reducible exact ih0 _ _ _ _)
   | (with_reducible exact hallmarkref05_Small.mono _ _ _ _ _)
   | (with_reducible exact hallmarkref06_Func.mono _ _ _)
   | (with_reducible exact hallmarkref06_Prog.mono _ _ _ _)
   | (with_reducible exact LeO.refl _)
   | (with_reducible exact LeO.none _)
   | (with_reducible refine LeO.ite ?_ ?_)
   | (with_reducible refine LeO.bind ?_ (fun _ => ?_))
   | exact ih0 _ _ _ _
   | exact hallmarkref05_Small.mono _ _ _ _ _
   | exact hallmarkref06_Func.mono _ _ _
   | exact hallmarkref06_Prog.mono _ _ _ _
   | exact LeO.none _
   | refine LeO.ite ?_ ?_
   | refine LeO.bind ?_ (fun _ => ?_)
theorem hallmarklaw06_ShowProgs.mono : ∀ a0 a1 a2 k, LeO (hallmarklaw06_ShowProgs.f k a0 a1 a2) (hallmarklaw06_ShowProgs.f (k + 1) a0 a1 a2) := by
 intro a0 a1 a2 k
 have ih0 := hallmarklaw06_ShowProgs.mono_l k
 unfold hallmarklaw06_ShowProgs.f
 repeat' first
   | (with_reducible exact ih0 _ _ _ _)
   | (with_reducible exact hallmarkref05_Small.mono _ _ _ _ _)
   | (with_reducible exact hallmarkref06_Func.mono _ _ _)
   | (with_reducible exact hallmarkref06_Prog.mono _ _ _ _)
   | (with_reducible exact LeO.refl _)
   | (with_reducible exact LeO.none _)
   | (with_reducible refine LeO.ite ?_ ?_)
   | (with_reducible refine LeO.bind ?_ (fun _ => ?_))
   | exact ih0 _ _ _ _
   | exact hallmarkref05_Small.mono _ _ _ _ _
   | exact hallmarkref06_Func.mono _ _ _
   | exact hallmarkref06_Prog.mono _ _ _ _
   | exact LeO.none _
   | refine LeO.ite ?_ ?_
   | refine LeO.bind ?_ (fun _ => ?_)
def hallmarklaw06_ShowProgs.T9 : Bool × List (List Nat × List Nat) := (true, [([], []), ([0], [0]), ([1], [1]), ([2], [2]), ([], []), ([3, 4], [3, 4]), ([5], [5]), ([6], [6]), ([], []), ([8], [8]), ([9], [9]), ([10], [10]), ([], []), ([11, 12], [11, 12]), ([13], [13]), ([14, 7], [14]), ([7, 15], [7, 15])])
def hallmarklaw06_ShowProgs.B9 : List Nat := [0, 1, 3, 7, 0, 31, 63, 127, 0, 256, 768, 1792, 0, 7936, 16128, 32767, 65535]
theorem hallmarklaw06_ShowProgs.tab9 : rtab .any (opsOf Tryd.f6 9) = hallmarklaw06_ShowProgs.T9 := by kernel_rfl
theorem hallmarklaw06_ShowProgs.bits9 : waitsOk hallmarklaw06_ShowProgs.T9.2 hallmarklaw06_ShowProgs.B9 = true := by kernel_rfl
set_option maxHeartbeats 8000000 in
set_option maxRecDepth 100000 in
theorem hallmarklaw06_ShowProgs.calls (k : Nat) (A0_0 : Option Addr) (c0_0 : Nat) (l0_0 : List (S52)) (A0_1 : Option Addr) (c0_1 : Nat) (l0_1 : List (S54)) (A0_2 : Option Addr) (c0_2 : Nat) (l0_2 : List (S44)) (r : Bool) (w : World) (hr0_0 : Kd.C k52 w A0_0 l0_0.length l0_0) (hc0_0 : l0_0.length ≤ c0_0) (hr0_1 : Kd.C k54 w A0_1 l0_1.length l0_1) (hc0_1 : l0_1.length ≤ c0_1) (hr0_2 : Kd.C k44 w A0_2 l0_2.length l0_2) (hc0_2 : l0_2.length ≤ c0_2) (h : hallmarklaw06_ShowProgs.f k l0_0 l0_1 l0_2 = some r) (hG : Door.Laid w) :
  Calls Tryd.prog 6 #[.agg #[.slice A0_0 l0_0.length c0_0, .slice A0_1 l0_1.length c0_1, .slice A0_2 l0_2.length c0_2]] w fun e w' => e = .returned (.bool r) ∧ Below w.heap.size w w' := by
 have hG_ := zm hG
 clear hG
 have hu34 := Tryd.underlying34
 have hu44 := Tryd.underlying44
 have HR0_0 := zm hr0_0
 have HC0_0 := zm hc0_0
 clear hr0_0 hc0_0
 have HR0_1 := zm hr0_1
 have HC0_1 := zm hc0_1
 clear hr0_1 hc0_1
 have HR0_2 := zm hr0_2
 have HC0_2 := zm hc0_2
 clear hr0_2 hc0_2
 have HB := zm (Below.refl w.heap.size w)
 have H : ((hallmarkref05_Small.f k l0_0 l0_1 l0_2 1500).bind fun t232 => (if t232 = true then ((show_Prog.f l0_0 l0_1 l0_2).bind fun t234 => ((hallmarkref06_Prog.f k l0_0 l0_1 l0_2).bind fun t235 => (if t234.toList = t235.toList then (hallmarklaw06_ShowProgs.l0 k 0 l0_0 l0_1 l0_2) else (none)))) else ((hallmarklaw06_lives.f).bind fun t233 => (some t233)))) = some r := h
 clear h
 replace H := Option.bind_eq_some_iff.mp H
 obtain ⟨t232, A20, H⟩ := H
 replace H : (if t232 = true then ((show_Prog.f l0_0 l0_1 l0_2).bind fun t234 => ((hallmarkref06_Prog.f k l0_0 l0_1 l0_2).bind fun t235 => (if t234.toList = t235.toList then (hallmarklaw06_ShowProgs.l0 k 0 l0_0 l0_1 l0_2) else (none)))) else ((hallmarklaw06_lives.f).bind fun t233 => (some t233))) = some r := H
 have A2 := zm A20
 clear A20
 by_cases c3 : t232 = true
 ·subst c3
  have H1 : ((show_Prog.f l0_0 l0_1 l0_2).bind fun t234 => ((hallmarkref06_Prog.f k l0_0 l0_1 l0_2).bind fun t235 => (if t234.toList = t235.toList then (hallmarklaw06_ShowProgs.l0 k 0 l0_0 l0_1 l0_2) else (none)))) = some r := by rw [if_pos rfl] at H; exact H
  clear H
  have H := H1
  clear H1
  replace H := Option.bind_eq_some_iff.mp H
  obtain ⟨t234, A40, H⟩ := H
  replace H : ((hallmarkref06_Prog.f k l0_0 l0_1 l0_2).bind fun t235 => (if t234.toList = t235.toList then (hallmarklaw06_ShowProgs.l0 k 0 l0_0 l0_1 l0_2) else (none))) = some r := H
  have A4 := zm A40
  clear A40
  replace H := Option.bind_eq_some_iff.mp H
  obtain ⟨t235, A50, H⟩ := H
  replace H : (if t234.toList = t235.toList then (hallmarklaw06_ShowProgs.l0 k 0 l0_0 l0_1 l0_2) else (none)) = some r := H
  have A5 := zm A50
  clear A50
  by_cases c6 : t234.toList = t235.toList
  ·rw [if_pos c6] at H
   have c6b0 : (t234.toList == t235.toList) = true := beq_iff_eq.mpr c6
   have c6b1 : (t234.toList != t235.toList) = false := bne_eq_false_iff_eq.mpr c6
   clear c6
   have H' := zm H
   clear H
   go_enter Tryd.func6, Tryd.ntmps6
   go_wp2_with (first | ((with_reducible refine gate_dst (N := 1) rfl ?_); (try (refine gate_guard (by rfl) ?_; dsimp only)); refine box_event ?hg (N := 1) ?hd (cs := #[.slice A0_0 l0_0.length c0_0, .slice A0_1 l0_1.length c0_1, .slice A0_2 l0_2.length c0_2]) (t := 34) ?hr ?_; (case hd => rfl); (case hg => rfl); (case hr => first | (go_simp; done) | (go_simp; rfl)); intro gb231 hg w7 hbox hb; have n0_ := zm (below_step (by repeat (first | (with_reducible first | exact HB.out | apply below_alloc | apply pw_below_drewN | apply below_drew1) | exact HB.out)) hb); have n1_ := zm (hbox); have n2_ := zm ((by rw [hg]; exact (below_size (by repeat (first | (with_reducible first | exact HB.out | apply below_alloc | apply pw_below_drewN | apply below_drew1) | exact HB.out))) : w.heap.size ≤ gb231)); have n3_ := zm ((by rw [hg]; exact (below_size (by repeat (first | (with_reducible first | exact HB.out | apply below_alloc | apply pw_below_drewN | apply below_drew1) | exact HB.out))) : w.heap.size ≤ gb231)); clear HB; have HB := n0_; have BK231 := n1_; have GW231 := n2_; have GE231 := n3_; clear n0_ n1_ n2_ n3_; clear hb hbox hg; have HI231 := zm (show IsS34 w w7 gb231 l0_0 l0_1 l0_2 from ⟨_, _, _, _, _, _, by (with_reducible repeat (first | refine blk_drewN ?_ _ | refine blk_drew ?_ | refine blk_alloc ?_ _)); exact BK231.out, GW231.out, HR0_0.out, HR0_1.out, HR0_2.out⟩)) | ((with_reducible refine gate_callee (f := 12) rfl ?_); refine goesL_ (some 6) rfl rfl Tryd.func12 (by kernel_rfl) rfl #[.pointer (some ⟨gb231, 0, none⟩), .int .i64 1500] rfl (by (try simp only [List.map_toArray, List.map_cons, List.map_nil]); first | done | rfl | (simp only [List.length_drop, List.length_take]; rfl)) ?_; (with_reducible refine (hallmarkref05_Small.calls k gb231 l0_0 l0_1 l0_2 1500 true w _ ?side1 ?side2 A2.out).mono ?_); (case side1 => repeat (first | (with_reducible first | exact HI231.out | apply IsS34.alloc | apply IsS34.drewN | apply IsS34.drew) | exact HI231.out)); (case side2 => repeat (first | (with_reducible first | exact HB.out | apply below_alloc | apply pw_below_drewN | apply below_drew1 | refine below_set ?_ (IsS34.ge HI231.out)) | exact HB.out)); rintro e w8 ⟨rfl, hi, hb, hk⟩; refine ⟨_, rfl, ?_⟩; have n0_ := zm (hb); have n1_ := zm (hi); clear HB; clear HI231; have HB := n0_; have HI231 := n1_; clear n0_ n1_; (try clear hb); (try clear hb2); (try clear hk); (try clear hi)) | ((with_reducible refine gate_callee (f := 14) rfl ?_); refine goesL_ (some 10) rfl rfl Tryd.func14 (by kernel_rfl) rfl #[.pointer (some ⟨gb231, 0, none⟩)] rfl (by (try simp only [List.map_toArray, List.map_cons, List.map_nil]); first | done | rfl | (simp only [List.length_drop, List.length_take]; rfl)) ?_; (with_reducible refine (show_Prog.calls gb231 l0_0 l0_1 l0_2 t234 w _ ?side1 ?side2 A4.out (Door.Laid.on hG_.out (by repeat (first | (with_reducible first | exact HB.out | exact Below.refl _ _ | apply below_alloc | apply pw_below_drewN | apply below_drew1) | exact HB.out | exact Below.refl _ _)))).mono ?_); (case side1 => repeat (first | (with_reducible first | exact HI231.out | apply IsS34.alloc | apply IsS34.drewN | apply IsS34.drew) | exact HI231.out)); (case side2 => repeat (first | (with_reducible first | exact HB.out | apply below_alloc | apply pw_below_drewN | apply below_drew1 | refine below_set ?_ (IsS34.ge HI231.out)) | exact HB.out)); rintro e w9 ⟨rfl, hi, hb, hk⟩; refine ⟨_, rfl, ?_⟩; have n0_ := zm (hb); have n1_ := zm (hi); clear HB; clear HI231; have HB := n0_; have HI231 := n1_; clear n0_ n1_; (try clear hb); (try clear hb2); (try clear hk); (try clear hi)) | ((with_reducible refine gate_callee (f := 16) rfl ?_); refine goesL_ (some 12) rfl rfl Tryd.func16 (by kernel_rfl) rfl #[.pointer (some ⟨gb231, 0, none⟩)] rfl (by (try simp only [List.map_toArray, List.map_cons, List.map_nil]); first | done | rfl | (simp only [List.length_drop, List.length_take]; rfl)) ?_; (with_reducible refine (hallmarkref06_Prog.calls k gb231 l0_0 l0_1 l0_2 t235 w _ ?side1 ?side2 A5.out).mono ?_); (case side1 => repeat (first | (with_reducible first | exact HI231.out | apply IsS34.alloc | apply IsS34.drewN | apply IsS34.drew) | exact HI231.out)); (case side2 => repeat (first | (with_reducible first | exact HB.out | apply below_alloc | apply pw_below_drewN | apply below_drew1 | refine below_set ?_ (IsS34.ge HI231.out)) | exact HB.out)); rintro e w10 ⟨rfl, hi, hb, hk⟩; refine ⟨_, rfl, ?_⟩; have n0_ := zm (hb); have n1_ := zm (hi); clear HB; clear HI231; have HB := n0_; have HI231 := n1_; clear n0_ n1_; (try clear hb); (try clear hb2); (try clear hk); (try clear hi)))
   go_loopg [4] k (fun kq v4 w' => ∃ (x4_1 : Int), v4 = .int .i64 x4_1 ∧ Aside0 (hallmarklaw06_ShowProgs.l0 kq x4_1 l0_0 l0_1 l0_2 = some r) ∧ Aside0 (kq ≤ k) ∧ Aside0 (IsS34 w w' gb231 l0_0 l0_1 l0_2) ∧ Aside0 (Below w.heap.size w w'))
   case atStart => exact ⟨(0), (by first | rfl | (simp; done) | (simp [*]; done) | (simp [*, wrap64]; done) | (simp [*]; unfold wrap64; omega)), H', ⟨Nat.le_refl _⟩, ⟨by repeat (first | (with_reducible first | exact HI231.out | apply IsS34.alloc | apply IsS34.drewN | apply IsS34.drew) | exact HI231.out)⟩, ⟨by repeat (first | (with_reducible first | exact HB.out | apply below_alloc | apply pw_below_drewN | apply below_drew1 | refine below_set ?_ (IsS34.ge HI231.out)) | exact HB.out)⟩⟩
   case round =>
    clear H'
    try clear c1
    try clear p2
    try clear c3
    try clear c6
    try clear c6b0
    try clear c6b1
    obtain ⟨x4_1, rfl, HA, HK1, HI231, HB⟩ := hrel
    cases gk with
    | zero => exact absurd HA.out (by simp [hallmarklaw06_ShowProgs.l0])
    | succ k1 =>
     have H := HA.out
     clear HA
     simp only [hallmarklaw06_ShowProgs.l0] at H
     by_cases c11 : x4_1 < (l0_2.length : Int)
     ·rw [if_pos c11] at H
      have c11b0 : decide (x4_1 < (l0_2.length : Int)) = true := decide_eq_true c11
      clear c11
      by_cases c12 : 0 ≤ x4_1
      ·rw [if_pos c12] at H
       have c12b0 : decide (0 ≤ x4_1) = true := decide_eq_true c12
       clear c12
       replace H := Option.bind_eq_some_iff.mp H
       obtain ⟨t238, A130, H⟩ := H
       replace H : ((hallmarkref06_Func.f k1 ((rd_T44 l0_2 x4_1).f0) ((rd_T44 l0_2 x4_1).f1)).bind fun t240 => (if t238.toList = t240.toList then (hallmarklaw06_ShowProgs.l0 k1 (wrap64 (x4_1 + 1)) l0_0 l0_1 l0_2) else (none))) = some r := H
       have A13 := zm A130
       clear A130
       replace H := Option.bind_eq_some_iff.mp H
       obtain ⟨t240, A140, H⟩ := H
       replace H : (if t238.toList = t240.toList then (hallmarklaw06_ShowProgs.l0 k1 (wrap64 (x4_1 + 1)) l0_0 l0_1 l0_2) else (none)) = some r := H
       have A14 := zm A140
       clear A140
       by_cases c15 : t238.toList = t240.toList
       ·rw [if_pos c15] at H
        have c15b0 : (t238.toList == t240.toList) = true := beq_iff_eq.mpr c15
        have c15b1 : (t238.toList != t240.toList) = false := bne_eq_false_iff_eq.mpr c15
        clear c15
        have H' := zm H
        clear H
        obtain ⟨ASz16_0, cSz16_0, ASz16_1, cSz16_1, ASz16_2, cSz16_2, HGz16, hgz16, HSz16_0, HSz16_1, HSz16_2⟩ := HI231.out
        have hcz16_0 := cellS34_0 HGz16
        have hcz16_1 := cellS34_1 HGz16
        have hcz16_2 := cellS34_2 HGz16
        clear HGz16 hgz16
        try go_wp2
        replace HI231 := zm (IsS34.drew HI231.out)
        replace HB := zm (below_drew1 HB.out)
        obtain ⟨AS18_0, cS18_0, AS18_1, cS18_1, AS18_2, cS18_2, HG18, hg18, HS18_0, HS18_1, HS18_2⟩ := HI231.out
        have hx18_0 := cellS34_0 HG18
        have hx18_1 := cellS34_1 HG18
        have hx18_2 := cellS34_2 HG18
        clear HG18 hg18
        have p237 : 0 ≤ (x4_1 : Int) := of_decide_eq_true (by first | (with_reducible assumption) | assumption)
        have q237 : x4_1 < (l0_2.length : Int) := of_decide_eq_true (by first | (with_reducible assumption) | assumption)
        obtain ⟨ad237, A237_1, c237_1, e237, hx237_0, hx237_1, hl237_1, hi237_1⟩ := at_T44 HS18_2 x4_1 p237 q237
        have hw237_1 := hx237_1
        have hw237_0 := hx237_0
        cases e237
        replace hx237_0 := (HB.out.cell (World.block_lt_of_cell? w _ hx237_0)).trans hx237_0
        replace hx237_1 := (HB.out.cell (World.block_lt_of_cell? w _ hx237_1)).trans hx237_1
        have HR237_1 := zm hi237_1
        have HC237_1 := zm hl237_1
        clear hi237_1 hl237_1
        replace p237 := eq_true p237
        replace q237 := eq_true q237
        have p239 : 0 ≤ (x4_1 : Int) := of_decide_eq_true (by first | (with_reducible assumption) | assumption)
        have q239 : x4_1 < (l0_2.length : Int) := of_decide_eq_true (by first | (with_reducible assumption) | assumption)
        obtain ⟨ad239, A239_1, c239_1, e239, hx239_0, hx239_1, hl239_1, hi239_1⟩ := at_T44 HS18_2 x4_1 p239 q239
        have hw239_1 := hx239_1
        have hw239_0 := hx239_0
        obtain rfl : ad237 = ad239 := (by injection e239)
        replace hx239_0 := (HB.out.cell (World.block_lt_of_cell? w _ hx239_0)).trans hx239_0
        replace hx239_1 := (HB.out.cell (World.block_lt_of_cell? w _ hx239_1)).trans hx239_1
        have HR239_1 := zm hi239_1
        have HC239_1 := zm hl239_1
        clear hi239_1 hl239_1
        replace p239 := eq_true p239
        replace q239 := eq_true q239
        have ea_ := Option.some.inj (hx237_1.symm.trans hx239_1)
        injection ea_ with ea_ en_ ec_
        subst ea_
        subst ec_
        clear en_
        refine start_ (n := 17) (S := fun w' => w'.cell? ⟨gb231, 0, none⟩ = some (.slice AS18_0 l0_0.length cS18_0) ∧ w'.cell? ⟨gb231, 1, none⟩ = some (.slice AS18_1 l0_1.length cS18_1) ∧ w'.cell? ⟨gb231, 2, none⟩ = some (.slice (some ad237) l0_2.length cS18_2) ∧ w'.cell? (ad237.add ((x4_1).toNat * 2)) = some (.int .i64 ((rd_T44 l0_2 x4_1).f0)) ∧ w'.cell? ⟨(ad237.add ((x4_1).toNat * 2)).block, (ad237.add ((x4_1).toNat * 2)).off + 1, none⟩ = some (.slice A237_1 ((rd_T44 l0_2 x4_1).f1).length c237_1) ∧ w'.cell? (ad237.add ((x4_1).toNat * 2)) = some (.int .i64 ((rd_T44 l0_2 x4_1).f0)) ∧ w'.cell? ⟨(ad237.add ((x4_1).toNat * 2)).block, (ad237.add ((x4_1).toNat * 2)).off + 1, none⟩ = some (.slice A237_1 ((rd_T44 l0_2 x4_1).f1).length c237_1)) (ds := []) #[Z,Z,Z,Z,Z,Z,Z,Z,Z,Z,Z,Z,Z,Z,Z,Z,Z] (by kernel_rfl) rfl rfl ⟨hx18_0, hx18_1, hx18_2, ((HB.out.cell (World.block_lt_of_cell? w _ hw237_0)).trans hw237_0), ((HB.out.cell (World.block_lt_of_cell? w _ hw237_1)).trans hw237_1), ((HB.out.cell (World.block_lt_of_cell? w _ hw239_0)).trans hw239_0), ((HB.out.cell (World.block_lt_of_cell? w _ hw239_1)).trans hw239_1)⟩ (fun hHeld => ?_); refine with_tabW hallmarklaw06_ShowProgs.tab9 hallmarklaw06_ShowProgs.bits9 (fun HT_ HW_ => ?_)
        generalize wr.drew = w17 at HI231 HB HR237_1 HR239_1 hx18_0 hx18_1 hx18_2 hx237_0 hx237_1 hx239_0 hx239_1 hHeld ⊢
        refine pure_ (i := 0) (N := some 27) (v := ?_) (a' := ?_) #[Y,Z,Z,Z,Z,Z,Z,Z,Z,Z,Z,Z,Z,Z,Z,Z,Z] rfl rfl (any_of HT_.out (by kernel_rfl)) (fun _ _ _ h => h) (Or.inl ⟨by rfl, ?_⟩) ?_ ?_
        rotate_left
        ·intro w'
         go_simp
         with_reducible rfl
        rotate_left
        ·simp only [Act.put, zl1, zl2, zl3, i64_w, i32_w]
         rfl
        refine pure_ (i := 1) (N := some 28) (v := ?_) (a' := ?_) #[Y,Y,Z,Z,Z,Z,Z,Z,Z,Z,Z,Z,Z,Z,Z,Z,Z] rfl rfl (any_of HT_.out (by kernel_rfl)) (fun _ _ _ h => h) (Or.inl ⟨by rfl, ?_⟩) ?_ ?_
        rotate_left
        ·intro w'
         go_simp
         with_reducible rfl
        rotate_left
        ·simp only [Act.put, zl1, zl2, zl3, i64_w, i32_w]
         rfl
        refine pure_ (i := 2) (N := some 29) (v := ?_) (a' := ?_) #[Y,Y,Y,Z,Z,Z,Z,Z,Z,Z,Z,Z,Z,Z,Z,Z,Z] rfl rfl (any_of HT_.out (by kernel_rfl)) (fun _ _ _ h => h) (Or.inl ⟨by rfl, ?_⟩) ?_ ?_
        rotate_left
        ·intro w'
         go_simp
         with_reducible rfl
        rotate_left
        ·simp only [Act.put, zl1, zl2, zl3, i64_w, i32_w]
         rfl
        refine pure_ (i := 4) (N := some 31) (v := ?_) (a' := ?_) #[Y,Y,Y,Z,Y,Z,Z,Z,Z,Z,Z,Z,Z,Z,Z,Z,Z] rfl rfl (any_of HT_.out (by kernel_rfl)) (fun _ _ _ h => h) (Or.inl ⟨by rfl, ?_⟩) ?_ ?_
        rotate_left
        ·intro w'
         go_simp
         with_reducible rfl
        rotate_left
        ·simp only [Act.put, zl1, zl2, zl3, i64_w, i32_w]
         rfl
        refine pure_ (i := 8) (N := some 35) (v := ?_) (a' := ?_) #[Y,Y,Y,Z,Y,Z,Z,Z,Y,Z,Z,Z,Z,Z,Z,Z,Z] rfl rfl (any_of HT_.out (by kernel_rfl)) (fun _ _ _ h => h) (Or.inl ⟨by rfl, ?_⟩) ?_ ?_
        rotate_left
        ·intro w'
         go_simp
         with_reducible rfl
        rotate_left
        ·simp only [Act.put, zl1, zl2, zl3, i64_w, i32_w]
         rfl
        refine pure_ (i := 9) (N := some 36) (v := ?_) (a' := ?_) #[Y,Y,Y,Z,Y,Z,Z,Z,Y,Y,Z,Z,Z,Z,Z,Z,Z] rfl rfl (any_of HT_.out (by kernel_rfl)) (fun _ _ _ h => h) (Or.inl ⟨by rfl, ?_⟩) ?_ ?_
        rotate_left
        ·intro w'
         go_simp
         with_reducible rfl
        rotate_left
        ·simp only [Act.put, zl1, zl2, zl3, i64_w, i32_w]
         rfl
        refine pure_ (i := 10) (N := some 37) (v := ?_) (a' := ?_) #[Y,Y,Y,Z,Y,Z,Z,Z,Y,Y,Y,Z,Z,Z,Z,Z,Z] rfl rfl (any_of HT_.out (by kernel_rfl)) (fun _ _ _ h => h) (Or.inl ⟨by rfl, ?_⟩) ?_ ?_
        rotate_left
        ·intro w'
         go_simp
         with_reducible rfl
        rotate_left
        ·simp only [Act.put, zl1, zl2, zl3, i64_w, i32_w]
         rfl
        refine pure_ (i := 12) (N := some 39) (v := ?_) (a' := ?_) #[Y,Y,Y,Z,Y,Z,Z,Z,Y,Y,Y,Z,Y,Z,Z,Z,Z] rfl rfl (any_of HT_.out (by kernel_rfl)) (fun _ _ _ h => h) (Or.inl ⟨by rfl, ?_⟩) ?_ ?_
        rotate_left
        ·intro w'
         go_simp
         with_reducible rfl
        rotate_left
        ·simp only [Act.put, zl1, zl2, zl3, i64_w, i32_w]
         rfl
        refine take_ (i := 3) (N := some 30) (v := ?_) (a' := ?_) #[Y,Y,Y,Y,Y,Z,Z,Z,Y,Y,Y,Z,Y,Z,Z,Z,Z] rfl rfl (take_ofW HT_.out HW_.out (by kernel_rfl)) (fun _ _ _ h => h) (Or.inl ⟨by rfl, ?_⟩) hHeld ?_ ?_
        rotate_left
        ·rintro w' ⟨s0, s1, s2, s3, s4, s5, s6⟩
         go_simp
         with_reducible rfl
        rotate_left
        ·simp only [Act.put, zl1, zl2, zl3, i64_w, i32_w]
         rfl
        refine pure_ (i := 5) (N := some 32) (v := ?_) (a' := ?_) #[Y,Y,Y,Y,Y,Y,Z,Z,Y,Y,Y,Z,Y,Z,Z,Z,Z] rfl rfl (any_of HT_.out (by kernel_rfl)) (fun _ _ _ h => h) (Or.inl ⟨by rfl, ?_⟩) ?_ ?_
        rotate_left
        ·intro w'
         go_simp
         with_reducible rfl
        rotate_left
        ·simp only [Act.put, zl1, zl2, zl3, i64_w, i32_w]
         rfl
        refine take_ (i := 6) (N := some 33) (v := ?_) (a' := ?_) #[Y,Y,Y,Y,Y,Y,Y,Z,Y,Y,Y,Z,Y,Z,Z,Z,Z] rfl rfl (take_ofW HT_.out HW_.out (by kernel_rfl)) (fun _ _ _ h => h) (Or.inl ⟨by rfl, ?_⟩) hHeld ?_ ?_
        rotate_left
        ·rintro w' ⟨s0, s1, s2, s3, s4, s5, s6⟩
         go_simp
         with_reducible rfl
        rotate_left
        ·simp only [Act.put, zl1, zl2, zl3, i64_w, i32_w]
         rfl
        refine take_ (i := 11) (N := some 38) (v := ?_) (a' := ?_) #[Y,Y,Y,Y,Y,Y,Y,Z,Y,Y,Y,Y,Y,Z,Z,Z,Z] rfl rfl (take_ofW HT_.out HW_.out (by kernel_rfl)) (fun _ _ _ h => h) (Or.inl ⟨by rfl, ?_⟩) hHeld ?_ ?_
        rotate_left
        ·rintro w' ⟨s0, s1, s2, s3, s4, s5, s6⟩
         go_simp
         with_reducible rfl
        rotate_left
        ·simp only [Act.put, zl1, zl2, zl3, i64_w, i32_w]
         rfl
        refine pure_ (i := 13) (N := some 40) (v := ?_) (a' := ?_) #[Y,Y,Y,Y,Y,Y,Y,Z,Y,Y,Y,Y,Y,Y,Z,Z,Z] rfl rfl (any_of HT_.out (by kernel_rfl)) (fun _ _ _ h => h) (Or.inl ⟨by rfl, ?_⟩) ?_ ?_
        rotate_left
        ·intro w'
         go_simp
         with_reducible rfl
        rotate_left
        ·simp only [Act.put, zl1, zl2, zl3, i64_w, i32_w]
         rfl
        refine take_ (i := 14) (N := some 41) (v := ?_) (a' := ?_) #[Y,Y,Y,Y,Y,Y,Y,Z,Y,Y,Y,Y,Y,Y,Y,Z,Z] rfl rfl (take_ofW HT_.out HW_.out (by kernel_rfl)) (fun _ _ _ h => h) (Or.inl ⟨by rfl, ?_⟩) hHeld ?_ ?_
        rotate_left
        ·rintro w' ⟨s0, s1, s2, s3, s4, s5, s6⟩
         go_simp
         with_reducible rfl
        rotate_left
        ·simp only [Act.put, zl1, zl2, zl3, i64_w, i32_w]
         rfl
        refine one_ (i := 7) (N := some 34) #[Y,Y,Y,Y,Y,Y,Y,Y,Y,Y,Y,Y,Y,Y,Y,Z,Z] rfl rfl (one_of HT_.out (by kernel_rfl)) (by decide) (fun K hK => ?_)
        refine goes_ Tryd.func17 (by kernel_rfl) rfl #[.agg #[.int .i64 ((rd_T44 l0_2 x4_1).f0), .slice A237_1 ((rd_T44 l0_2 x4_1).f1).length c237_1]] (by rfl) rfl rfl (by (try simp only [List.map_toArray, List.map_cons, List.map_nil]); first | done | rfl | (simp only [List.length_drop, List.length_take]; rfl)) ?_
        with_reducible refine (show_Func.calls ((rd_T44 l0_2 x4_1).f0) _ _ ((rd_T44 l0_2 x4_1).f1) t238 _ ?side1 ?side2 A13.out (Door.Laid.on hG_.out (by repeat (first | (with_reducible first | exact HB.out | exact Below.refl _ _ | apply below_alloc | apply pw_below_drewN | apply below_drew1) | exact HB.out | exact Below.refl _ _)))).mono ?_
        (case side1 => repeat (first | exact (Kd.C_below HR237_1.out HB.out) | (with_reducible refine Kd.C_alloc ?_ _) | (with_reducible refine Kd.C_drewN ?_ _) | (with_reducible refine Kd.C_drew ?_)))
        (case side2 => exact HC237_1.out)
        rintro e w19 ⟨rfl, hb⟩
        have HS0_ := zh hb (hHeld.1)
        have HS1_ := zh hb (hHeld.2.1)
        have HS2_ := zh hb (hHeld.2.2.1)
        refine ⟨_, rfl, ?_⟩
        replace HB := zm (below_step (by repeat (first | (with_reducible first | exact HB.out | apply below_alloc | apply pw_below_drewN | apply below_drew1 | refine below_set ?_ (IsS34.ge HI231.out)) | exact HB.out)) hb)
        replace HI231 := zm (IsS34.below (by repeat (first | (with_reducible first | exact HI231.out | apply IsS34.alloc | apply IsS34.drewN | apply IsS34.drew) | exact HI231.out)) hb)
        (try clear hb)
        (try clear hb2)
        (try clear hk)
        (try clear hi)
        refine hK.out _ _ ⟨HS0_, HS1_, HS2_, ((HB.out.cell (World.block_lt_of_cell? w _ hw237_0)).trans hw237_0), ((HB.out.cell (World.block_lt_of_cell? w _ hw237_1)).trans hw237_1), ((HB.out.cell (World.block_lt_of_cell? w _ hw239_0)).trans hw239_0), ((HB.out.cell (World.block_lt_of_cell? w _ hw239_1)).trans hw239_1)⟩ (fun hHeld => ?_)
        clear hK K
        refine norm_ (a' := ?_) ?_ ?_
        rotate_left
        ·show Act.put _ (some 34) _ = _
         simp only [Act.put, zl1, zl2, zl3, i64_w, i32_w]
         rfl
        refine one_ (i := 15) (N := some 42) #[Y,Y,Y,Y,Y,Y,Y,Y,Y,Y,Y,Y,Y,Y,Y,Y,Z] rfl rfl (one_of HT_.out (by kernel_rfl)) (by decide) (fun K hK => ?_)
        refine goes_ Tryd.func18 (by kernel_rfl) rfl #[.agg #[.int .i64 ((rd_T44 l0_2 x4_1).f0), .slice A237_1 ((rd_T44 l0_2 x4_1).f1).length c237_1]] (by rfl) rfl rfl (by (try simp only [List.map_toArray, List.map_cons, List.map_nil]); first | done | rfl | (simp only [List.length_drop, List.length_take]; rfl)) ?_
        with_reducible refine (hallmarkref06_Func.calls k1 ((rd_T44 l0_2 x4_1).f0) _ _ ((rd_T44 l0_2 x4_1).f1) t240 _ ?side1 ?side2 A14.out).mono ?_
        (case side1 => repeat (first | exact (Kd.C_below HR239_1.out HB.out) | (with_reducible refine Kd.C_alloc ?_ _) | (with_reducible refine Kd.C_drewN ?_ _) | (with_reducible refine Kd.C_drew ?_)))
        (case side2 => exact HC239_1.out)
        rintro e w20 ⟨rfl, hb⟩
        have HS0_ := zh hb (hHeld.1)
        have HS1_ := zh hb (hHeld.2.1)
        have HS2_ := zh hb (hHeld.2.2.1)
        refine ⟨_, rfl, ?_⟩
        replace HB := zm (below_step (by repeat (first | (with_reducible first | exact HB.out | apply below_alloc | apply pw_below_drewN | apply below_drew1 | refine below_set ?_ (IsS34.ge HI231.out)) | exact HB.out)) hb)
        replace HI231 := zm (IsS34.below (by repeat (first | (with_reducible first | exact HI231.out | apply IsS34.alloc | apply IsS34.drewN | apply IsS34.drew) | exact HI231.out)) hb)
        (try clear hb)
        (try clear hb2)
        (try clear hk)
        (try clear hi)
        refine hK.out _ _ ⟨HS0_, HS1_, HS2_, ((HB.out.cell (World.block_lt_of_cell? w _ hw237_0)).trans hw237_0), ((HB.out.cell (World.block_lt_of_cell? w _ hw237_1)).trans hw237_1), ((HB.out.cell (World.block_lt_of_cell? w _ hw239_0)).trans hw239_0), ((HB.out.cell (World.block_lt_of_cell? w _ hw239_1)).trans hw239_1)⟩ (fun hHeld => ?_)
        clear hK K
        refine norm_ (a' := ?_) ?_ ?_
        rotate_left
        ·show Act.put _ (some 42) _ = _
         simp only [Act.put, zl1, zl2, zl3, i64_w, i32_w]
         rfl
        refine pure_ (i := 16) (N := some 43) (v := ?_) (a' := ?_) #[Y,Y,Y,Y,Y,Y,Y,Y,Y,Y,Y,Y,Y,Y,Y,Y,Y] rfl rfl (any_of HT_.out (by kernel_rfl)) (fun _ _ _ h => h) (Or.inl ⟨by rfl, ?_⟩) ?_ ?_
        rotate_left
        ·intro w'
         go_simp
         with_reducible rfl
        rotate_left
        ·simp only [Act.put, zl1, zl2, zl3, i64_w, i32_w]
         rfl
        refine done_ (done_of HT_.out (by kernel_rfl)) ?_
        try go_wp2
        go_roundg k1
        case measure => have := HK1.out; omega
        case rel => exact ⟨(wrap64 (x4_1 + 1)), (by first | rfl | (simp; done) | (simp [*]; done) | (simp [*, wrap64]; done) | (simp [*]; unfold wrap64; omega)), H', ⟨by have := HK1.out; omega⟩, ⟨by repeat (first | (with_reducible first | exact HI231.out | apply IsS34.alloc | apply IsS34.drewN | apply IsS34.drew) | exact HI231.out)⟩, ⟨by repeat (first | (with_reducible first | exact HB.out | apply below_alloc | apply pw_below_drewN | apply below_drew1 | refine below_set ?_ (IsS34.ge HI231.out)) | exact HB.out)⟩⟩
       ·rw [if_neg c15] at H
        exact absurd H (by simp)
      ·rw [if_neg c12] at H
       exact absurd H (by simp)
     ·rw [if_neg c11] at H
      have c11b0 : decide (x4_1 < (l0_2.length : Int)) = false := decide_eq_false c11
      clear c11
      replace H := Option.bind_eq_some_iff.mp H
      obtain ⟨t236, A260, H⟩ := H
      replace H : (some t236) = some r := H
      have A26 := zm A260
      clear A260
      obtain rfl := Option.some.inj H
      obtain ⟨ASz27_0, cSz27_0, ASz27_1, cSz27_1, ASz27_2, cSz27_2, HGz27, hgz27, HSz27_0, HSz27_1, HSz27_2⟩ := HI231.out
      have hcz27_0 := cellS34_0 HGz27
      have hcz27_1 := cellS34_1 HGz27
      have hcz27_2 := cellS34_2 HGz27
      clear HGz27 hgz27
      go_wp2_with (first | ((with_reducible refine gate_callee (f := 9) rfl ?_); refine goesL_ (some 44) rfl rfl Tryd.func9 (by kernel_rfl) rfl #[] rfl (by (try simp only [List.map_toArray, List.map_cons, List.map_nil]); first | done | rfl | (simp only [List.length_drop, List.length_take]; rfl)) ?_; (with_reducible refine (hallmarklaw06_lives.calls  t236 _ A26.out (Door.Laid.on hG_.out (by repeat (first | (with_reducible first | exact HB.out | exact Below.refl _ _ | apply below_alloc | apply pw_below_drewN | apply below_drew1) | exact HB.out | exact Below.refl _ _)))).mono ?_); rintro e w28 ⟨rfl, hb⟩; refine ⟨_, rfl, ?_⟩; have n0_ := zm (IsS34.below (by repeat (first | (with_reducible first | exact HI231.out | apply IsS34.alloc | apply IsS34.drewN | apply IsS34.drew) | exact HI231.out)) hb); have n1_ := zm (below_step (by repeat (first | (with_reducible first | exact HB.out | apply below_alloc | apply pw_below_drewN | apply below_drew1 | refine below_set ?_ (IsS34.ge HI231.out)) | exact HB.out)) hb); clear HI231; clear HB; have HI231 := n0_; have HB := n1_; clear n0_ n1_; (try clear hb); (try clear hb2); (try clear hk); (try clear hi)))
      go_ret
      exact ⟨by first | rfl | (simp [errW_none, errW_some] <;> rfl) | (simp [*, errW_none, errW_some] <;> rfl), by repeat (first | (with_reducible first | exact HB.out | apply below_alloc | apply pw_below_drewN | apply below_drew1 | refine below_set ?_ (IsS34.ge HI231.out)) | exact HB.out)⟩
  ·rw [if_neg c6] at H
   exact absurd H (by simp)
 ·replace c3 := Bool.eq_false_iff.mpr c3
  subst c3
  have H1 : ((hallmarklaw06_lives.f).bind fun t233 => (some t233)) = some r := by rw [if_neg (show ¬ (false = true) by decide)] at H; exact H
  clear H
  have H := H1
  clear H1
  replace H := Option.bind_eq_some_iff.mp H
  obtain ⟨t233, A330, H⟩ := H
  replace H : (some t233) = some r := H
  have A33 := zm A330
  clear A330
  obtain rfl := Option.some.inj H
  go_enter Tryd.func6, Tryd.ntmps6
  go_wp2_with (first | ((with_reducible refine gate_dst (N := 1) rfl ?_); (try (refine gate_guard (by rfl) ?_; dsimp only)); refine box_event ?hg (N := 1) ?hd (cs := #[.slice A0_0 l0_0.length c0_0, .slice A0_1 l0_1.length c0_1, .slice A0_2 l0_2.length c0_2]) (t := 34) ?hr ?_; (case hd => rfl); (case hg => rfl); (case hr => first | (go_simp; done) | (go_simp; rfl)); intro gb231 hg w34 hbox hb; have n0_ := zm (below_step (by repeat (first | (with_reducible first | exact HB.out | apply below_alloc | apply pw_below_drewN | apply below_drew1) | exact HB.out)) hb); have n1_ := zm (hbox); have n2_ := zm ((by rw [hg]; exact (below_size (by repeat (first | (with_reducible first | exact HB.out | apply below_alloc | apply pw_below_drewN | apply below_drew1) | exact HB.out))) : w.heap.size ≤ gb231)); have n3_ := zm ((by rw [hg]; exact (below_size (by repeat (first | (with_reducible first | exact HB.out | apply below_alloc | apply pw_below_drewN | apply below_drew1) | exact HB.out))) : w.heap.size ≤ gb231)); clear HB; have HB := n0_; have BK231 := n1_; have GW231 := n2_; have GE231 := n3_; clear n0_ n1_ n2_ n3_; clear hb hbox hg; have HI231 := zm (show IsS34 w w34 gb231 l0_0 l0_1 l0_2 from ⟨_, _, _, _, _, _, by (with_reducible repeat (first | refine blk_drewN ?_ _ | refine blk_drew ?_ | refine blk_alloc ?_ _)); exact BK231.out, GW231.out, HR0_0.out, HR0_1.out, HR0_2.out⟩)) | ((with_reducible refine gate_callee (f := 12) rfl ?_); refine goesL_ (some 6) rfl rfl Tryd.func12 (by kernel_rfl) rfl #[.pointer (some ⟨gb231, 0, none⟩), .int .i64 1500] rfl (by (try simp only [List.map_toArray, List.map_cons, List.map_nil]); first | done | rfl | (simp only [List.length_drop, List.length_take]; rfl)) ?_; (with_reducible refine (hallmarkref05_Small.calls k gb231 l0_0 l0_1 l0_2 1500 false w _ ?side1 ?side2 A2.out).mono ?_); (case side1 => repeat (first | (with_reducible first | exact HI231.out | apply IsS34.alloc | apply IsS34.drewN | apply IsS34.drew) | exact HI231.out)); (case side2 => repeat (first | (with_reducible first | exact HB.out | apply below_alloc | apply pw_below_drewN | apply below_drew1 | refine below_set ?_ (IsS34.ge HI231.out)) | exact HB.out)); rintro e w35 ⟨rfl, hi, hb, hk⟩; refine ⟨_, rfl, ?_⟩; have n0_ := zm (hb); have n1_ := zm (hi); clear HB; clear HI231; have HB := n0_; have HI231 := n1_; clear n0_ n1_; (try clear hb); (try clear hb2); (try clear hk); (try clear hi)) | ((with_reducible refine gate_callee (f := 9) rfl ?_); refine goesL_ (some 8) rfl rfl Tryd.func9 (by kernel_rfl) rfl #[] rfl (by (try simp only [List.map_toArray, List.map_cons, List.map_nil]); first | done | rfl | (simp only [List.length_drop, List.length_take]; rfl)) ?_; (with_reducible refine (hallmarklaw06_lives.calls  t233 _ A33.out (Door.Laid.on hG_.out (by repeat (first | (with_reducible first | exact HB.out | exact Below.refl _ _ | apply below_alloc | apply pw_below_drewN | apply below_drew1) | exact HB.out | exact Below.refl _ _)))).mono ?_); rintro e w36 ⟨rfl, hb⟩; refine ⟨_, rfl, ?_⟩; have n0_ := zm (IsS34.below (by repeat (first | (with_reducible first | exact HI231.out | apply IsS34.alloc | apply IsS34.drewN | apply IsS34.drew) | exact HI231.out)) hb); have n1_ := zm (below_step (by repeat (first | (with_reducible first | exact HB.out | apply below_alloc | apply pw_below_drewN | apply below_drew1 | refine below_set ?_ (IsS34.ge HI231.out)) | exact HB.out)) hb); clear HI231; clear HB; have HI231 := n0_; have HB := n1_; clear n0_ n1_; (try clear hb); (try clear hb2); (try clear hk); (try clear hi)))
  go_ret
  exact ⟨by first | rfl | (simp [errW_none, errW_some] <;> rfl) | (simp [*, errW_none, errW_some] <;> rfl), by repeat (first | (with_reducible first | exact HB.out | apply below_alloc | apply pw_below_drewN | apply below_drew1 | refine below_set ?_ (IsS34.ge HI231.out)) | exact HB.out)⟩

open Opens
def V52 (x : S52) : Prop := (x.f0.length * 8 ≤ 140737488351232 ∧ x.f0.length ≤ maxLen ∧ ∀ y ∈ x.f0, (Lit.int .i64 y).wf = true) ∧ (Lit.int .i64 x.f1).wf = true
theorem opens52 : OpensAs Tryd.prog k52 V52 52 := opens_iso (fun x : S52 => (x.f0, x.f1)) (fun p => ⟨p.1, p.2⟩) (fun _ => rfl) (opens_struct Tryd.underlying52 (by kernel_rfl) (fields_cons rfl (opens_slice Tryd.underlying22 (by kernel_rfl) (opens_int Tryd.underlying3 (by kernel_rfl)) (B := 8) (by kernel_rfl)) (fields_one rfl (opens_int Tryd.underlying3 (by kernel_rfl)))))
def V54 (x : S54) : Prop := (x.f0.length * 8 ≤ 140737488351232 ∧ x.f0.length ≤ maxLen ∧ ∀ y ∈ x.f0, (Lit.int .i64 y).wf = true) ∧ (x.f1.length * 8 ≤ 140737488351232 ∧ x.f1.length ≤ maxLen ∧ ∀ y ∈ x.f1, (Lit.int .i64 y).wf = true)
theorem opens54 : OpensAs Tryd.prog k54 V54 54 := opens_iso (fun x : S54 => (x.f0, x.f1)) (fun p => ⟨p.1, p.2⟩) (fun _ => rfl) (opens_struct Tryd.underlying54 (by kernel_rfl) (fields_cons rfl (opens_slice Tryd.underlying22 (by kernel_rfl) (opens_int Tryd.underlying3 (by kernel_rfl)) (B := 8) (by kernel_rfl)) (fields_one rfl (opens_slice Tryd.underlying22 (by kernel_rfl) (opens_int Tryd.underlying3 (by kernel_rfl)) (B := 8) (by kernel_rfl)))))
def V24 (x : S24) : Prop := (Lit.int .i64 x.f0).wf = true ∧ (Lit.int .i64 x.f1).wf = true ∧ (Lit.int .i64 x.f2).wf = true ∧ (Lit.int .i64 x.f3).wf = true ∧ (Lit.int .i64 x.f4).wf = true ∧ x.f5.size ≤ 140737488351232 ∧ (x.f6.length * 8 ≤ 140737488351232 ∧ x.f6.length ≤ maxLen ∧ ∀ y ∈ x.f6, (Lit.int .i64 y).wf = true) ∧ True
theorem opens24 : OpensAs Tryd.prog k24 V24 24 := opens_iso (fun x : S24 => (x.f0, x.f1, x.f2, x.f3, x.f4, x.f5, x.f6, x.f7)) (fun p => ⟨p.1, p.2.1, p.2.2.1, p.2.2.2.1, p.2.2.2.2.1, p.2.2.2.2.2.1, p.2.2.2.2.2.2.1, p.2.2.2.2.2.2.2⟩) (fun _ => rfl) (opens_struct Tryd.underlying24 (by kernel_rfl) (fields_cons rfl (opens_int Tryd.underlying3 (by kernel_rfl)) (fields_cons rfl (opens_int Tryd.underlying3 (by kernel_rfl)) (fields_cons rfl (opens_int Tryd.underlying3 (by kernel_rfl)) (fields_cons rfl (opens_int Tryd.underlying3 (by kernel_rfl)) (fields_cons rfl (opens_int Tryd.underlying2 (by kernel_rfl)) (fields_cons rfl (opens_string Tryd.underlying9 (by kernel_rfl)) (fields_cons rfl (opens_slice Tryd.underlying22 (by kernel_rfl) (opens_int Tryd.underlying3 (by kernel_rfl)) (B := 8) (by kernel_rfl)) (fields_one rfl (opens_bool Tryd.underlying4 (by kernel_rfl)))))))))))
def V57 (x : S57) : Prop := (Lit.int .i64 x.f0).wf = true ∧ (Lit.int .i64 x.f1).wf = true ∧ (Lit.int .i64 x.f2).wf = true ∧ (Lit.int .i64 x.f3).wf = true ∧ (x.f4.length * 8 ≤ 140737488351232 ∧ x.f4.length ≤ maxLen ∧ ∀ y ∈ x.f4, (Lit.int .i64 y).wf = true) ∧ (x.f5.length * 8 ≤ 140737488351232 ∧ x.f5.length ≤ maxLen ∧ ∀ y ∈ x.f5, (Lit.int .i64 y).wf = true)
theorem opens57 : OpensAs Tryd.prog k57 V57 57 := opens_iso (fun x : S57 => (x.f0, x.f1, x.f2, x.f3, x.f4, x.f5)) (fun p => ⟨p.1, p.2.1, p.2.2.1, p.2.2.2.1, p.2.2.2.2.1, p.2.2.2.2.2⟩) (fun _ => rfl) (opens_struct Tryd.underlying57 (by kernel_rfl) (fields_cons rfl (opens_int Tryd.underlying3 (by kernel_rfl)) (fields_cons rfl (opens_int Tryd.underlying3 (by kernel_rfl)) (fields_cons rfl (opens_int Tryd.underlying3 (by kernel_rfl)) (fields_cons rfl (opens_int Tryd.underlying3 (by kernel_rfl)) (fields_cons rfl (opens_slice Tryd.underlying22 (by kernel_rfl) (opens_int Tryd.underlying3 (by kernel_rfl)) (B := 8) (by kernel_rfl)) (fields_one rfl (opens_slice Tryd.underlying22 (by kernel_rfl) (opens_int Tryd.underlying3 (by kernel_rfl)) (B := 8) (by kernel_rfl)))))))))
def V59 (x : S59) : Prop := (x.f0.length * 8 ≤ 140737488351232 ∧ x.f0.length ≤ maxLen ∧ ∀ y ∈ x.f0, (Lit.int .i64 y).wf = true) ∧ (x.f1.length * 88 ≤ 140737488351232 ∧ x.f1.length ≤ maxLen ∧ ∀ y ∈ x.f1, V24 y) ∧ V57 x.f2
theorem opens59 : OpensAs Tryd.prog k59 V59 59 := opens_iso (fun x : S59 => (x.f0, x.f1, x.f2)) (fun p => ⟨p.1, p.2.1, p.2.2⟩) (fun _ => rfl) (opens_struct Tryd.underlying59 (by kernel_rfl) (fields_cons rfl (opens_slice Tryd.underlying22 (by kernel_rfl) (opens_int Tryd.underlying3 (by kernel_rfl)) (B := 8) (by kernel_rfl)) (fields_cons rfl (opens_slice Tryd.underlying55 (by kernel_rfl) opens24 (B := 88) (by kernel_rfl)) (fields_one rfl opens57))))
def V44 (x : S44) : Prop := (Lit.int .i64 x.f0).wf = true ∧ (x.f1.length * 128 ≤ 140737488351232 ∧ x.f1.length ≤ maxLen ∧ ∀ y ∈ x.f1, V59 y)
theorem opens44 : OpensAs Tryd.prog k44 V44 44 := opens_iso (fun x : S44 => (x.f0, x.f1)) (fun p => ⟨p.1, p.2⟩) (fun _ => rfl) (opens_struct Tryd.underlying44 (by kernel_rfl) (fields_cons rfl (opens_int Tryd.underlying3 (by kernel_rfl)) (fields_one rfl (opens_slice Tryd.underlying42 (by kernel_rfl) opens59 (B := 128) (by kernel_rfl)))))
/-- THE ONE PURE STATEMENT of hallmarklaw06_ShowProgs. -/
def hallmarklaw06_ShowProgs.Pure : Prop := ∀ (l0_0 : List (S52)) (l0_1 : List (S54)) (l0_2 : List (S44)), (l0_0.length * 32 ≤ 140737488351232 ∧ l0_0.length ≤ maxLen ∧ ∀ y ∈ l0_0, V52 y) → (l0_1.length * 48 ≤ 140737488351232 ∧ l0_1.length ≤ maxLen ∧ ∀ y ∈ l0_1, V54 y) → (l0_2.length * 32 ≤ 140737488351232 ∧ l0_2.length ≤ maxLen ∧ ∀ y ∈ l0_2, V44 y) → ∃ k : Nat, hallmarklaw06_ShowProgs.f k l0_0 l0_1 l0_2 = some true

end Go.Proofs.YtojmepkhbebllaaDoor.PShowProgs
