/- The law FnExactConstants returns true: every constant that the program names has the value that the reference asks. No condition. -/
import Derived.Test.YtekpagfagciflaaPFnExactConstantsx1
namespace Go.Proofs.Ytekpagfagciflaa.Pure
open Go.RowKit Go.Proofs.Ytekpagfagciflaa.PFnExactConstants Go.Proofs.YtekpagfagciflaaW.PrintWords Go.Proofs.YtekpagfagciflaaW.PrintLast

/-- YOURS: laws_FnExactConstants.f  = some true
What it reaches (each with k first where it has rounds; `.mono`: more rounds tell the same; `.l0`, ..: its loops, with `.mono_l`): laws_FnExactConstants.f -/
theorem FnExactConstants : laws_FnExactConstants.Pure := by
  rfl

end Go.Proofs.Ytekpagfagciflaa.Pure
