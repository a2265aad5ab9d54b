/- The given law of AlignUp answers true for all arguments: the program's AlignUp and the reference's AlignUp compute the same number. No condition. -/
import Derived.Test.YtkllbjjcjinhpaaPFnExactAlignUpx1
namespace Go.Proofs.Ytkllbjjcjinhpaa.Pure
open Go.RowKit Go.Proofs.Ytkllbjjcjinhpaa.PFnExactAlignUp Go.Proofs.YtkllbjjcjinhpaaW.PrintWords Go.Proofs.YtkllbjjcjinhpaaW.PrintLast

theorem within_some (a l h : Int) : spec_l1In.f a l h = some (decide (l ≤ a ∧ a ≤ h)) := by
  unfold spec_l1In.f; by_cases g : a ≥ l
  · rw [if_pos g]; congr 1; simp; omega
  · rw [if_neg g]; congr 1; simp; omega
theorem align_some (a : Int) : spec_l1Align.f a = some (decide (a = 1 ∨ a = 2 ∨ a = 4)) := by
  unfold spec_l1Align.f
  by_cases h1 : a = 1
  · rw [if_pos h1]; simp [h1]
  · rw [if_neg h1]
    by_cases h2 : a = 2
    · rw [if_pos h2]; simp [h2]
    · rw [if_neg h2]; congr 1; rw [Bool.eq_iff_iff]; simp; omega
theorem up_some (a b : Int) : ∃ r, spec_AlignUp.f a b = some r := by
  unfold spec_AlignUp.f
  simp only [within_some, align_some, Option.bind_some, decide_eq_true_eq]
  by_cases h : 0 ≤ a ∧ a ≤ 1000000000
  · rw [if_pos h]
    by_cases g : b = 1 ∨ b = 2 ∨ b = 4
    · rw [if_pos g, if_neg (by omega)]; exact ⟨_, rfl⟩
    · rw [if_neg g]; exact ⟨_, rfl⟩
  · rw [if_neg h]; exact ⟨_, rfl⟩
theorem FnExactAlignUp : laws_FnExactAlignUp.Pure := by
  intro a b _ _
  obtain ⟨r, h⟩ := up_some a b
  have e : impl_AlignUp.f a b = spec_AlignUp.f a b := rfl
  unfold laws_FnExactAlignUp.f
  rw [e, h]; simp

end Go.Proofs.Ytkllbjjcjinhpaa.Pure
