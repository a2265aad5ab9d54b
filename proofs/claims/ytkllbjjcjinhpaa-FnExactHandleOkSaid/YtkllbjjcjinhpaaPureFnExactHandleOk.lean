/- What the law FnExactHandleOk computes is the answer true, for all arguments within the bounds that the statement's own reading gives. No other condition. -/
import Derived.Test.YtkllbjjcjinhpaaPFnExactHandleOkx1
namespace Go.Proofs.Ytkllbjjcjinhpaa.Pure
open Go.RowKit Go.Proofs.Ytkllbjjcjinhpaa.PFnExactHandleOk Go.Proofs.YtkllbjjcjinhpaaW.PrintWords Go.Proofs.YtkllbjjcjinhpaaW.PrintLast
set_option linter.unusedVariables false
def laws_FnExactHandleOk.Pure : Prop := ∀ (a0_0 : Int) (a0_1 : Int), (Lit.int .i64 a0_0).wf = true → (Lit.int .i64 a0_1).wf = true → laws_FnExactHandleOk.f a0_0 a0_1 = some true
theorem FnExactHandleOk : laws_FnExactHandleOk.Pure := by
  intro a b _ _
  unfold laws_FnExactHandleOk.f laws_toHandle.f
  have e : impl_HandleOk.f a b = spec_HandleOk.f a b := rfl
  obtain ⟨r, h⟩ : ∃ r, spec_HandleOk.f a b = some r := by unfold spec_HandleOk.f; split <;> exact ⟨_, rfl⟩
  simp only [Option.bind_some]
  rw [e, h]; simp
end Go.Proofs.Ytkllbjjcjinhpaa.Pure
