import Derived.Test.YtbjdiaefchcbjaaDoorBaseKindFields
namespace Go.Proofs.YtbjdiaefchcbjaaDoor.Pure
open Go Go.RowKit Go.Proofs.YtbjdiaefchcbjaaDoorW.PrintWords Go.Proofs.YtbjdiaefchcbjaaDoorW.PrintLast Go.Proofs.YtbjdiaefchcbjaaDoorW.PrintMore Go.Proofs.YtbjdiaefchcbjaaDoor.PKindFields Go.Proofs.YtbjdiaefchcbjaaDoor.BaseKindFields
theorem KindFields : hallmarklaw04_KindFields.Pure := by
  intro K a b c n s l st _ _ _ _ _ _ hl _
  have hl' : l.length < 17592186044000 := by omega
  refine Ev.rounds ?_
  unfold hallmarklaw04_KindFields.f
  have hf : kind_Fields.f K = some (fieldsL K) := rfl
  have hlp : (if hasF K 76 then l else []).length < 17592186044000 := by split; exact hl'; simp
  simp only [own_is K a b c n s l st hl', plain_f K a b c n s l st hl', hf, Option.bind_some]
  refine Ev.bind (fields_ev K) ?_
  simp only [if_true, plain_is K a b c n s l st hl', Option.bind_some]
  refine Ev.bind (exact_ev _ _ _ _ _ _ _ _ hlp) ?_
  simp only [if_true, own_is _ _ _ _ _ _ _ _ hlp, plain_f _ _ _ _ _ _ _ _ hlp, Option.bind_some, twice]
  refine Ev.bind (exact_ev _ _ _ _ _ _ _ _ hlp) ?_
  simp only [if_true, hallmarklaw04_lives.f, Option.bind_some]
  exact Ev.now _
end Go.Proofs.YtbjdiaefchcbjaaDoor.Pure
