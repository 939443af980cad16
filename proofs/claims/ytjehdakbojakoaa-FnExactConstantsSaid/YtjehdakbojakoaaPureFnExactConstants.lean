/- Constants: each exported constant of the program has the value of the document. There are no conditions. -/
import Derived.Test.YtjehdakbojakoaaPFnExactConstantsx1
namespace Go.Proofs.Ytjehdakbojakoaa.Pure
open Go.RowKit Go.Proofs.Ytjehdakbojakoaa.PFnExactConstants Go.Proofs.YtjehdakbojakoaaW.PrintWords Go.Proofs.YtjehdakbojakoaaW.PrintLast

theorem FnExactConstants : laws_FnExactConstants.Pure := by
  unfold laws_FnExactConstants.Pure laws_FnExactConstants.f
  rfl

end Go.Proofs.Ytjehdakbojakoaa.Pure
