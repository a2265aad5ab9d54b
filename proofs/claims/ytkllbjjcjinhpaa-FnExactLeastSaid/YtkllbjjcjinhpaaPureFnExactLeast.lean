/- The given law of Least answers true for all arguments: the program's Least and the reference's Least compute the same number. No condition. -/
import Derived.Test.YtkllbjjcjinhpaaPFnExactLeastx1
namespace Go.Proofs.Ytkllbjjcjinhpaa.Pure
open Go.RowKit Go.Proofs.Ytkllbjjcjinhpaa.PFnExactLeast Go.Proofs.YtkllbjjcjinhpaaW.PrintWords Go.Proofs.YtkllbjjcjinhpaaW.PrintLast

theorem FnExactLeast : laws_FnExactLeast.Pure := by
  intro a b _ _
  unfold laws_FnExactLeast.f spec_Least.f impl_Least.f mn
  by_cases h : b < a
  · rw [if_pos h]; simp only [Option.bind_some]; rw [if_pos (by split <;> omega)]
  · rw [if_neg h]; simp only [Option.bind_some]; rw [if_pos (by split <;> omega)]

end Go.Proofs.Ytkllbjjcjinhpaa.Pure
