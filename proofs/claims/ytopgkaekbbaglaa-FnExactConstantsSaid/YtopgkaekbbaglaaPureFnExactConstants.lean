/- The program's constants have the values that the document gives them; no condition. -/
import Derived.Test.YtopgkaekbbaglaaPFnExactConstantsx1
namespace Go.Proofs.Ytopgkaekbbaglaa.Pure
open Go.RowKit Go.Proofs.Ytopgkaekbbaglaa.PFnExactConstants Go.Proofs.YtopgkaekbbaglaaW.PrintWords Go.Proofs.YtopgkaekbbaglaaW.PrintLast

/-- YOURS: laws_FnExactConstants.f  = some true
What it reaches (each with k first where it has rounds; `.mono`: more rounds tell the same; `.l0`, ..: its loops, with `.mono_l`): laws_FnExactConstants.f -/
theorem FnExactConstants : laws_FnExactConstants.Pure := by
  unfold laws_FnExactConstants.Pure laws_FnExactConstants.f
  rfl

end Go.Proofs.Ytopgkaekbbaglaa.Pure
