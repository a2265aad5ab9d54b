/- The given law of CeilDiv answers true for all arguments: the program's CeilDiv and the reference's CeilDiv compute the same number. No condition. -/
import Derived.Test.YtkllbjjcjinhpaaPFnExactCeilDivx1
namespace Go.Proofs.Ytkllbjjcjinhpaa.Pure
open Go.RowKit Go.Proofs.Ytkllbjjcjinhpaa.PFnExactCeilDiv Go.Proofs.YtkllbjjcjinhpaaW.PrintWords Go.Proofs.YtkllbjjcjinhpaaW.PrintLast

theorem within_some (a l h : Int) : spec_l1In.f a l h = some (decide (l ≤ a ∧ a ≤ h)) := by
  unfold spec_l1In.f; by_cases g : a ≥ l
  · rw [if_pos g]; congr 1; simp; omega
  · rw [if_neg g]; congr 1; simp; omega
theorem ceil_some (a b : Int) : ∃ r, spec_CeilDiv.f a b = some r := by
  unfold spec_CeilDiv.f
  simp only [within_some, Option.bind_some, decide_eq_true_eq]
  by_cases h : 0 ≤ a ∧ a ≤ 1000000000
  · rw [if_pos h]
    by_cases g : 1 ≤ b ∧ b ≤ 1000000000
    · rw [if_pos g, if_neg (by omega)]; exact ⟨_, rfl⟩
    · rw [if_neg g]; exact ⟨_, rfl⟩
  · rw [if_neg h]; exact ⟨_, rfl⟩
theorem FnExactCeilDiv : laws_FnExactCeilDiv.Pure := by
  intro a b _ _
  obtain ⟨r, h⟩ := ceil_some a b
  have e : impl_CeilDiv.f a b = spec_CeilDiv.f a b := rfl
  unfold laws_FnExactCeilDiv.f
  rw [e, h]; simp

end Go.Proofs.Ytkllbjjcjinhpaa.Pure
