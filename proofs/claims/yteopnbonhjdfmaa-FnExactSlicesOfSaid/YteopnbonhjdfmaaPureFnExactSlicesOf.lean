/- What the law FnExactSlicesOf computes is the answer true, for all arguments within the bounds that the statement's own reading gives. No other condition. -/
import Derived.Test.YteopnbonhjdfmaaPFnExactSlicesOfx1
namespace Go.Proofs.Yteopnbonhjdfmaa.Pure
open Go.RowKit Go.Proofs.Yteopnbonhjdfmaa.PFnExactSlicesOf Go.Proofs.YteopnbonhjdfmaaW.PrintWords Go.Proofs.YteopnbonhjdfmaaW.PrintLast
set_option linter.unusedVariables false
def laws_FnExactSlicesOf.Pure : Prop := ∀ (a0_0 : Int) (a0_1 : Int) (a0_2 : Int) (a0_3 : Int) (a0_4 : Int) (a0_5 : Int) (a1 : Int), (Lit.int .i64 a0_0).wf = true → (Lit.int .i64 a0_1).wf = true → (Lit.int .i64 a0_2).wf = true → (Lit.int .i64 a0_3).wf = true → (Lit.int .i64 a0_4).wf = true → (Lit.int .i64 a0_5).wf = true → (Lit.int .i64 a1).wf = true → laws_FnExactSlicesOf.f a0_0 a0_1 a0_2 a0_3 a0_4 a0_5 a1 = some true
theorem within_some (a l h : Int) : spec_l1In.f a l h = some (decide (l ≤ a ∧ a ≤ h)) := by
  unfold spec_l1In.f; by_cases g : a ≥ l
  · rw [if_pos g]; congr 1; simp; omega
  · rw [if_neg g]; congr 1; simp; omega
theorem ceil_some (a b : Int) : ∃ r, spec_CeilDiv.f a b = some r := by
  unfold spec_CeilDiv.f
  simp only [within_some, Option.bind_some, decide_eq_true_eq]
  by_cases h : 0 ≤ a ∧ a ≤ 1000000000
  · rw [if_pos h]
    by_cases g : 1 ≤ b ∧ b ≤ 1000000000
    · rw [if_pos g, if_neg (by omega)]; exact ⟨_, rfl⟩
    · rw [if_neg g]; exact ⟨_, rfl⟩
  · rw [if_neg h]; exact ⟨_, rfl⟩
theorem FnExactSlicesOf : laws_FnExactSlicesOf.Pure := by
  intro a b c d e f n _ _ _ _ _ _ _
  obtain ⟨r, h⟩ := ceil_some n e
  have he : impl_CeilDiv.f n e = spec_CeilDiv.f n e := rfl
  simp [laws_FnExactSlicesOf.f, laws_toConf.f, spec_SlicesOf.f, impl_SlicesOf.f, he, h]
end Go.Proofs.Yteopnbonhjdfmaa.Pure
