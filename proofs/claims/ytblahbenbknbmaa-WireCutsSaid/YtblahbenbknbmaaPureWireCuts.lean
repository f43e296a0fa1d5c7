/- A number's bytes that end too early are told as that: proved for all numbers and all places. -/
import Derived.Test.YtblahbenbknbmaaCalcWireCuts
namespace Go.Proofs.Ytblahbenbknbmaa.Pure
open Go.RowKit Go.Proofs.YtblahbenbknbmaaW.PrintWords Go.Proofs.YtblahbenbknbmaaW.PrintLast Go.Proofs.YtblahbenbknbmaaW.PrintMore Go.Proofs.Ytblahbenbknbmaa.PWireCuts Go.Proofs.Ytblahbenbknbmaa.BaseWireCuts Go.Proofs.Ytblahbenbknbmaa.NumWireCuts Go.Proofs.Ytblahbenbknbmaa.CalcWireCuts

theorem main (k : Nat) (hk : 30 ≤ k) (n : Int) (h0 : -9223372036854775808 ≤ n) (h1 : n < 9223372036854775808) (at_ : Nat) (ha : at_ < 256) : hallmarklaw03_WireCuts.f k n (at_ : Int) = some true := by
  have hp := enc_pos n
  have hl := enc_le n
  obtain ⟨j, hj⟩ : ∃ j, at_ % (enc n).length = j := ⟨_, rfl⟩
  have hlt : j < (enc n).length := hj ▸ Nat.mod_lt _ hp
  have g1 : ¬ (((enc n).length : Int) = 0) := by omega
  have g2 : (0 : Int) ≤ (j : Int) := Int.natCast_nonneg j
  have g3 : (j : Int) ≤ ((enc n).length : Int) := by omega
  have g4 : ((enc n).take j).length < 140737488355328 := by rw [List.length_take]; omega
  have g5 : (at_ : Int) < 9223372036854775808 := by omega
  have g6 : -9223372036854775808 ≤ (at_ : Int) := by omega
  have et : Int.tmod (wrap64 (at_ : Int)) ((enc n).length : Int) = (j : Int) := by
    rw [wrap_id g6 g5, ← hj]; exact (Int.ofNat_tmod _ _).symm
  have hb : ∀ x ∈ (enc n).take j, 0 ≤ x ∧ x < 256 := fun x hx => enc_bytes n x (List.mem_of_mem_take hx)
  unfold hallmarklaw03_WireCuts.f
  rw [Put_is k (by omega) [] n (by decide) h0 h1, Option.bind_some, List.nil_append, if_neg g1, et, if_pos g2, if_pos g3, Int.toNat_natCast, own_is _ g4, Option.bind_some,
    Take_is k hk _ hb, Option.bind_some, take_early n j h0 h1 hlt]
  have et : takeR ((enc n).take j) (0, 0, 3) = (0, [], 3) := rfl
  rw [et, if_pos rfl, if_pos (by rfl), lives_is k hk, Option.bind_some]

theorem WireCuts : hallmarklaw03_WireCuts.Pure := by
  intro n at_ hn ha
  have hr := range hn
  have hu : 0 ≤ at_ ∧ at_ ≤ 255 := by
    simp [Lit.wf, IntKind.min, IntKind.max, IntKind.signed, IntKind.bits] at ha
    omega
  obtain ⟨a, rfl⟩ := Int.eq_ofNat_of_zero_le hu.1
  exact ⟨30, main 30 (Nat.le_refl _) n hr.1 hr.2 a (by omega)⟩
end Go.Proofs.Ytblahbenbknbmaa.Pure
