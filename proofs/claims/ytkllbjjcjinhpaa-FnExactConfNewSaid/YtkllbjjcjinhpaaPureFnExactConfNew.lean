/- The given law of ConfNew answers true for all arguments: the program's ConfNew and the reference's ConfNew compute the same number. No condition. -/
import Derived.Test.YtkllbjjcjinhpaaPFnExactConfNewx1
namespace Go.Proofs.Ytkllbjjcjinhpaa.Pure
open Go.RowKit Go.Proofs.Ytkllbjjcjinhpaa.PFnExactConfNew Go.Proofs.YtkllbjjcjinhpaaW.PrintWords Go.Proofs.YtkllbjjcjinhpaaW.PrintLast

theorem FnExactConfNew : laws_FnExactConfNew.Pure := rfl

end Go.Proofs.Ytkllbjjcjinhpaa.Pure
