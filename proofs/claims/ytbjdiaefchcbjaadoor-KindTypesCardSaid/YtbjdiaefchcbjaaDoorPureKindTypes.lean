import Derived.Test.YtbjdiaefchcbjaaDoorPKindTypesx5
namespace Go.Proofs.YtbjdiaefchcbjaaDoor.Pure
open Go.RowKit Go.Proofs.YtbjdiaefchcbjaaDoor.PKindTypes Go.Proofs.YtbjdiaefchcbjaaDoorW.PrintWords Go.Proofs.YtbjdiaefchcbjaaDoorW.PrintLast
theorem KindTypes : hallmarklaw04_KindTypes.Pure := by
  intro l0 l1 l2 a1 h0 h1 h2 ha
  refine ⟨0, ?_⟩
  unfold hallmarklaw04_KindTypes.f
  rw [if_pos ?_]
  have h := h1.2.1
  simp only [maxLen] at h
  simp [Lit.wf, IntKind.min, IntKind.max, IntKind.signed, IntKind.bits] at ha
  omega
end Go.Proofs.YtbjdiaefchcbjaaDoor.Pure
