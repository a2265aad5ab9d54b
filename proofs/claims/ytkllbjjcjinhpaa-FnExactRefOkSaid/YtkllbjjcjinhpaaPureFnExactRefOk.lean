/- What the law FnExactRefOk computes is the answer true, for all arguments within the bounds that the statement's own reading gives. No other condition. -/
import Derived.Test.YtkllbjjcjinhpaaPFnExactRefOkx1
namespace Go.Proofs.Ytkllbjjcjinhpaa.Pure
open Go.RowKit Go.Proofs.Ytkllbjjcjinhpaa.PFnExactRefOk Go.Proofs.YtkllbjjcjinhpaaW.PrintWords Go.Proofs.YtkllbjjcjinhpaaW.PrintLast
set_option linter.unusedVariables false
def laws_FnExactRefOk.Pure : Prop := ∀ (a0_0 : Int) (a0_1 : Int) (a0_2 : Int) (a0_3 : Int), (Lit.int .i64 a0_0).wf = true → (Lit.int .i64 a0_1).wf = true → (Lit.int .i64 a0_2).wf = true → (Lit.int .i64 a0_3).wf = true → laws_FnExactRefOk.f a0_0 a0_1 a0_2 a0_3 = some true
theorem FnExactRefOk : laws_FnExactRefOk.Pure := by
  intro a b c d _ _ _ _
  unfold laws_FnExactRefOk.f laws_toRef.f laws_toHandle.f
  have e : impl_RefOk.f a b c d = spec_RefOk.f a b c d := rfl
  obtain ⟨s, hs⟩ : ∃ r, spec_HandleOk.f a b = some r := by unfold spec_HandleOk.f; split <;> exact ⟨_, rfl⟩
  obtain ⟨r, h⟩ : ∃ r, spec_RefOk.f a b c d = some r := by
    unfold spec_RefOk.f
    rw [hs]; simp only [Option.bind_some]
    split
    · split <;> exact ⟨_, rfl⟩
    · exact ⟨_, rfl⟩
  simp only [Option.bind_some]
  rw [e, h]; simp
end Go.Proofs.Ytkllbjjcjinhpaa.Pure
