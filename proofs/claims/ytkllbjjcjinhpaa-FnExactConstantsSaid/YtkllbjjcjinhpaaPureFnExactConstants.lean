/- The given law of Constants answers true. No condition. -/
import Derived.Test.YtkllbjjcjinhpaaPFnExactConstantsx1
namespace Go.Proofs.Ytkllbjjcjinhpaa.Pure
open Go.RowKit Go.Proofs.Ytkllbjjcjinhpaa.PFnExactConstants Go.Proofs.YtkllbjjcjinhpaaW.PrintWords Go.Proofs.YtkllbjjcjinhpaaW.PrintLast

theorem FnExactConstants : laws_FnExactConstants.Pure := rfl

end Go.Proofs.Ytkllbjjcjinhpaa.Pure
