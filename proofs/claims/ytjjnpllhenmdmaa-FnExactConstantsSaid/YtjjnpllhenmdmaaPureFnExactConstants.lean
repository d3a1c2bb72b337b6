import Derived.Test.YtjjnpllhenmdmaaPFnExactConstantsx1
namespace Go.Proofs.Ytjjnpllhenmdmaa.Pure
open Go.RowKit Go.Proofs.Ytjjnpllhenmdmaa.PFnExactConstants Go.Proofs.YtjjnpllhenmdmaaW.PrintWords Go.Proofs.YtjjnpllhenmdmaaW.PrintLast

/-- YOURS: laws_FnExactConstants.f  = some true
What it reaches (each with k first where it has rounds; `.mono`: more rounds tell the same; `.l0`, ..: its loops, with `.mono_l`): laws_FnExactConstants.f -/
theorem FnExactConstants : laws_FnExactConstants.Pure := by
  rfl

end Go.Proofs.Ytjjnpllhenmdmaa.Pure
