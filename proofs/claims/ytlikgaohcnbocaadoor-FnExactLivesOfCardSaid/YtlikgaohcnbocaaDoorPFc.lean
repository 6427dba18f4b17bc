/- The program's LivesOf, in plain Lean. -/
import Derived.Test.YtlikgaohcnbocaaDoorPFb
import Derived.Test.YtlikgaohcnbocaaDoorQ39
namespace Go.Proofs.YtlikgaohcnbocaaDoor.Pr
open Go.RowKit Go.Proofs.YtlikgaohcnbocaaDoorW.PrintWords Go.Proofs.YtlikgaohcnbocaaDoorW.PrintLast Go.Proofs.YtlikgaohcnbocaaDoorW.PrintMore
theorem ofLives_told (a0 : ByteArray) (hs : a0.size ≤ 1048576) : impl_LivesOf.f a0 = some (if (toldOf a0).2.2 = true then (lvs (toldOf a0).1, true) else ([], false)) := by
  obtain ⟨m, l, g, hm, hl⟩ := told_good a0
  unfold impl_LivesOf.f
  rw [told_f a0 hs, Option.bind_some]
  split
  · rw [hm, lives_told g (by omega), Option.bind_some]
  · rfl
end Go.Proofs.YtlikgaohcnbocaaDoor.Pr
