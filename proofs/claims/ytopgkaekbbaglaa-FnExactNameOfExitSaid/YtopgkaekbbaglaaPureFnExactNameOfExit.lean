/- The program's NameOfExit returns what the reference's returns, for every number; no condition. -/
import Derived.Test.YtopgkaekbbaglaaPFnExactNameOfExitx1
namespace Go.Proofs.Ytopgkaekbbaglaa.Pure
open Go.RowKit Go.Proofs.Ytopgkaekbbaglaa.PFnExactNameOfExit Go.Proofs.YtopgkaekbbaglaaW.PrintWords Go.Proofs.YtopgkaekbbaglaaW.PrintLast

/-- YOURS: ∀ (a0 : Int), (Lit.int .i64 a0).wf = true → laws_FnExactNameOfExit.f a0 = some true
What it reaches (each with k first where it has rounds; `.mono`: more rounds tell the same; `.l0`, ..: its loops, with `.mono_l`): spec_NameOfExit.f, impl_NameOfExit.f, laws_FnExactNameOfExit.f -/
theorem FnExactNameOfExit : laws_FnExactNameOfExit.Pure := by
  intro a0 _
  unfold laws_FnExactNameOfExit.f
  by_cases h0 : a0 < 0
  · have h1 : ¬ a0 = 1 := by omega
    have h2 : ¬ a0 = 2 := by omega
    have h3 : ¬ a0 = 3 := by omega
    have h4 : ¬ a0 = 4 := by omega
    simp [spec_NameOfExit.f, impl_NameOfExit.f, h0, h1, h2, h3, h4, rdOf]
  · by_cases h5 : 4 < a0
    · have h1 : ¬ a0 = 1 := by omega
      have h2 : ¬ a0 = 2 := by omega
      have h3 : ¬ a0 = 3 := by omega
      have h4 : ¬ a0 = 4 := by omega
      simp [spec_NameOfExit.f, impl_NameOfExit.f, h0, h5, h1, h2, h3, h4, rdOf]
    · have h : a0 = 0 ∨ a0 = 1 ∨ a0 = 2 ∨ a0 = 3 ∨ a0 = 4 := by omega
      rcases h with rfl | rfl | rfl | rfl | rfl <;> simp [spec_NameOfExit.f, impl_NameOfExit.f, rdOf]

end Go.Proofs.Ytopgkaekbbaglaa.Pure
