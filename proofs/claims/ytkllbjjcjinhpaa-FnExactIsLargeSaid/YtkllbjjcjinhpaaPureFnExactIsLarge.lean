/- What the law FnExactIsLarge computes is the answer true, for all arguments within the bounds that the statement's own reading gives. No other condition. -/
import Derived.Test.YtkllbjjcjinhpaaPFnExactIsLargex1
namespace Go.Proofs.Ytkllbjjcjinhpaa.Pure
open Go.RowKit Go.Proofs.Ytkllbjjcjinhpaa.PFnExactIsLarge Go.Proofs.YtkllbjjcjinhpaaW.PrintWords Go.Proofs.YtkllbjjcjinhpaaW.PrintLast
set_option linter.unusedVariables false
def laws_FnExactIsLarge.Pure : Prop := ∀ (a0_0 : Int) (a0_1 : Int) (a0_2 : Int) (a0_3 : Int) (a0_4 : Int) (a0_5 : Int) (a1 : Int), (Lit.int .i64 a0_0).wf = true → (Lit.int .i64 a0_1).wf = true → (Lit.int .i64 a0_2).wf = true → (Lit.int .i64 a0_3).wf = true → (Lit.int .i64 a0_4).wf = true → (Lit.int .i64 a0_5).wf = true → (Lit.int .i64 a1).wf = true → laws_FnExactIsLarge.f a0_0 a0_1 a0_2 a0_3 a0_4 a0_5 a1 = some true
theorem FnExactIsLarge : laws_FnExactIsLarge.Pure := by
  intro a0 a1 a2 a3 a4 a5 b _ _ _ _ _ _ _
  unfold laws_FnExactIsLarge.f laws_toConf.f
  simp [spec_IsLarge.f, impl_IsLarge.f]
end Go.Proofs.Ytkllbjjcjinhpaa.Pure
