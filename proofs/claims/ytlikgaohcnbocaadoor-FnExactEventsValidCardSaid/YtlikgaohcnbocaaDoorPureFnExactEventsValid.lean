/- EventsValid: the plain law. -/
import Derived.Test.YtlikgaohcnbocaaDoorPEvc
import Derived.Test.YtlikgaohcnbocaaDoorQ5
namespace Go.Proofs.YtlikgaohcnbocaaDoor.Pure
open Go.RowKit Go.Proofs.YtlikgaohcnbocaaDoor.Pr Go.Proofs.YtlikgaohcnbocaaDoorW.PrintWords Go.Proofs.YtlikgaohcnbocaaDoorW.PrintLast
theorem FnExactEventsValid : laws_FnExactEventsValid.Pure := by
  intro a0 _
  by_cases hs : (a0.size : Int) > 1048576
  · exact ⟨0, by unfold laws_FnExactEventsValid.f; rw [if_pos hs]⟩
  · obtain ⟨k, hk⟩ := (l7Read_ev a0 (by omega)).rounds
    refine ⟨k, ?_⟩
    have h2 : impl_told.f a0 = some (toldOf a0) := by unfold impl_told.f; rw [if_pos (by omega)]
    unfold laws_FnExactEventsValid.f spec_EventsValid.f impl_EventsValid.f
    rw [if_neg hs, hk, h2]
    simp
end Go.Proofs.YtlikgaohcnbocaaDoor.Pure
