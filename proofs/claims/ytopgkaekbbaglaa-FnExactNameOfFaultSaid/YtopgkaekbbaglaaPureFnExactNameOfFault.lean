/- The program's NameOfFault returns what the reference's returns, for every number; no condition. -/
import Derived.Test.YtopgkaekbbaglaaPFnExactNameOfFaultx1
namespace Go.Proofs.Ytopgkaekbbaglaa.Pure
open Go.RowKit Go.Proofs.Ytopgkaekbbaglaa.PFnExactNameOfFault Go.Proofs.YtopgkaekbbaglaaW.PrintWords Go.Proofs.YtopgkaekbbaglaaW.PrintLast

/-- YOURS: ∀ (a0 : Int), (Lit.int .i64 a0).wf = true → laws_FnExactNameOfFault.f a0 = some true
What it reaches (each with k first where it has rounds; `.mono`: more rounds tell the same; `.l0`, ..: its loops, with `.mono_l`): spec_NameOfFault.f, impl_NameOfFault.f, laws_FnExactNameOfFault.f -/
theorem FnExactNameOfFault : laws_FnExactNameOfFault.Pure := by
  intro a0 _
  unfold laws_FnExactNameOfFault.f
  by_cases h0 : a0 < 0
  · have h1 : ¬ a0 = 1 := by omega
    have h2 : ¬ a0 = 2 := by omega
    have h3 : ¬ a0 = 3 := by omega
    have h4 : ¬ a0 = 0 := by omega
    simp [spec_NameOfFault.f, impl_NameOfFault.f, h0, h1, h2, h3, h4]
  · by_cases h5 : 3 < a0
    · have h1 : ¬ a0 = 1 := by omega
      have h2 : ¬ a0 = 2 := by omega
      have h3 : ¬ a0 = 3 := by omega
      have h4 : ¬ a0 = 0 := by omega
      simp [spec_NameOfFault.f, impl_NameOfFault.f, h0, h5, h1, h2, h3, h4]
    · have h : a0 = 0 ∨ a0 = 1 ∨ a0 = 2 ∨ a0 = 3 := by omega
      rcases h with rfl | rfl | rfl | rfl <;> simp [spec_NameOfFault.f, impl_NameOfFault.f, rdOf]

end Go.Proofs.Ytopgkaekbbaglaa.Pure
