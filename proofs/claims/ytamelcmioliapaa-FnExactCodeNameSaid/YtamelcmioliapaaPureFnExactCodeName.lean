/- What the law FnExactCodeName computes is the answer true, for all arguments within the bounds of the statement's own reading. No other condition. -/
import Derived.OpenShut
import Derived.Test.YtamelcmioliapaaQFnExactCodeNamex1
namespace Go.Proofs.Ytamelcmioliapaa.Pure
open Go.RowKit Go.Proofs.Ytamelcmioliapaa.QFnExactCodeName Go.Proofs.YtamelcmioliapaaW.PrintWords Go.Proofs.YtamelcmioliapaaW.PrintLast
set_option linter.unusedVariables false
theorem FnExactCodeName : laws_FnExactCodeName.Pure := by
  intro a ha
  unfold laws_FnExactCodeName.f
  have e : spec_CodeName.f a = impl_CodeName.f a := by
    unfold spec_CodeName.f impl_CodeName.f spec_l1In.f impl_within.f impl_CodeName.names
    simp only [Option.bind_some]
    by_cases h0 : a ≥ 0
    · simp only [if_pos h0, Option.bind_some]
      have e1 : wrap64 ((([(⟨#[111, 107]⟩ : ByteArray), (⟨#[102, 111, 114, 109]⟩ : ByteArray), (⟨#[115, 116, 97, 108, 101]⟩ : ByteArray), (⟨#[100, 101, 101, 112]⟩ : ByteArray), (⟨#[114, 111, 111, 109, 115]⟩ : ByteArray), (⟨#[102, 117, 108, 108]⟩ : ByteArray), (⟨#[102, 114, 97, 103]⟩ : ByteArray), (⟨#[114, 97, 110, 103, 101]⟩ : ByteArray), (⟨#[109, 97, 110, 121]⟩ : ByteArray)] : List ByteArray).length : Int) - 1) = 8 := by simp only [List.length_cons, List.length_nil]; unfold wrap64; omega
      rw [e1]
      by_cases h1 : a ≤ 8
      · have h0' : 0 ≤ a := h0
        have h2 : a < ((([(⟨#[111, 107]⟩ : ByteArray), (⟨#[102, 111, 114, 109]⟩ : ByteArray), (⟨#[115, 116, 97, 108, 101]⟩ : ByteArray), (⟨#[100, 101, 101, 112]⟩ : ByteArray), (⟨#[114, 111, 111, 109, 115]⟩ : ByteArray), (⟨#[102, 117, 108, 108]⟩ : ByteArray), (⟨#[102, 114, 97, 103]⟩ : ByteArray), (⟨#[114, 97, 110, 103, 101]⟩ : ByteArray), (⟨#[109, 97, 110, 121]⟩ : ByteArray)] : List ByteArray).length : Nat) : Int) := by
          simp only [List.length_cons, List.length_nil]; omega
        simp only [decide_eq_true h1, if_true, if_pos h2]
      · rw [decide_eq_false h1, if_neg Bool.false_ne_true, if_neg Bool.false_ne_true]
    · simp only [if_neg h0, Option.bind_some, if_neg Bool.false_ne_true]
  rw [e]
  obtain ⟨r, hr⟩ : ∃ r, impl_CodeName.f a = some r := by
    unfold impl_CodeName.f impl_within.f
    by_cases h0 : a ≥ 0
    · rw [if_pos h0, Option.bind_some]
      by_cases h1 : decide (a ≤ 8) = true
      · rw [if_pos h1]; exact ⟨_, rfl⟩
      · rw [if_neg h1]; exact ⟨_, rfl⟩
    · rw [if_neg h0, Option.bind_some, if_neg Bool.false_ne_true]; exact ⟨_, rfl⟩
  rw [hr]
  simp only [Option.bind_some, if_true]
end Go.Proofs.Ytamelcmioliapaa.Pure
