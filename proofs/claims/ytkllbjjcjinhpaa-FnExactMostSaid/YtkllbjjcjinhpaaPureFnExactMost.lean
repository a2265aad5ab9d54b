/- The given law of Most answers true for all arguments: the program's Most and the reference's Most compute the same number. No condition. -/
import Derived.Test.YtkllbjjcjinhpaaPFnExactMostx1
namespace Go.Proofs.Ytkllbjjcjinhpaa.Pure
open Go.RowKit Go.Proofs.Ytkllbjjcjinhpaa.PFnExactMost Go.Proofs.YtkllbjjcjinhpaaW.PrintWords Go.Proofs.YtkllbjjcjinhpaaW.PrintLast

theorem FnExactMost : laws_FnExactMost.Pure := by
  intro a b _ _
  unfold laws_FnExactMost.f spec_Most.f impl_Most.f mx
  by_cases h : b > a
  · rw [if_pos h]; simp only [Option.bind_some]; rw [if_pos (by split <;> omega)]
  · rw [if_neg h]; simp only [Option.bind_some]; rw [if_pos (by split <;> omega)]

end Go.Proofs.Ytkllbjjcjinhpaa.Pure
