/- What the law FnExactConfOk computes is the answer true, for all arguments within the bounds that the statement's own reading gives. No other condition. -/
import Derived.Test.YtkllbjjcjinhpaaPFnExactConfOkx1
namespace Go.Proofs.Ytkllbjjcjinhpaa.Pure
open Go.RowKit Go.Proofs.Ytkllbjjcjinhpaa.PFnExactConfOk Go.Proofs.YtkllbjjcjinhpaaW.PrintWords Go.Proofs.YtkllbjjcjinhpaaW.PrintLast
set_option linter.unusedVariables false
def laws_FnExactConfOk.Pure : Prop := ∀ (a0_0 : Int) (a0_1 : Int) (a0_2 : Int) (a0_3 : Int) (a0_4 : Int) (a0_5 : Int), (Lit.int .i64 a0_0).wf = true → (Lit.int .i64 a0_1).wf = true → (Lit.int .i64 a0_2).wf = true → (Lit.int .i64 a0_3).wf = true → (Lit.int .i64 a0_4).wf = true → (Lit.int .i64 a0_5).wf = true → laws_FnExactConfOk.f a0_0 a0_1 a0_2 a0_3 a0_4 a0_5 = some true
theorem within_some (a l h : Int) : spec_l1In.f a l h = some (decide (l ≤ a ∧ a ≤ h)) := by
  unfold spec_l1In.f; by_cases g : a ≥ l
  · rw [if_pos g]; congr 1; simp; omega
  · rw [if_neg g]; congr 1; simp; omega
theorem FnExactConfOk : laws_FnExactConfOk.Pure := by
  intro a b c d e f _ _ _ _ _ _
  unfold laws_FnExactConfOk.f laws_toConf.f
  have he : impl_ConfOk.f a b c d e f = spec_ConfOk.f a b c d e f := rfl
  obtain ⟨r, h⟩ : ∃ r, spec_ConfOk.f a b c d e f = some r := by
    unfold spec_ConfOk.f
    simp only [within_some, Option.bind_some]
    repeat (first | exact ⟨_, rfl⟩ | split)
  simp only [Option.bind_some]
  rw [he, h]; simp
end Go.Proofs.Ytkllbjjcjinhpaa.Pure
