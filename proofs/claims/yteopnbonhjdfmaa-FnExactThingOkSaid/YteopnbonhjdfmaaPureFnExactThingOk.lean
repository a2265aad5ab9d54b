/- What the law FnExactThingOk computes is the answer true, for all arguments within the bounds that the statement's own reading gives. No other condition. -/
import Derived.Test.YteopnbonhjdfmaaPFnExactThingOkx5
namespace Go.Proofs.Yteopnbonhjdfmaa.Pure
open Go.RowKit Go.Proofs.Yteopnbonhjdfmaa.PFnExactThingOk Go.Proofs.YteopnbonhjdfmaaW.PrintWords Go.Proofs.YteopnbonhjdfmaaW.PrintLast
set_option linter.unusedVariables false
def laws_FnExactThingOk.Pure : Prop := ∀ (a0_0 : Int) (a0_1 : Int) (a0_2 : Int) (a0_3 : Int) (a0_4 : Int) (a0_5 : Int) (a1_0 : Int) (a1_1 : Int) (a1_2 : Int), (Lit.int .i64 a0_0).wf = true → (Lit.int .i64 a0_1).wf = true → (Lit.int .i64 a0_2).wf = true → (Lit.int .i64 a0_3).wf = true → (Lit.int .i64 a0_4).wf = true → (Lit.int .i64 a0_5).wf = true → (Lit.int .i64 a1_0).wf = true → (Lit.int .i64 a1_1).wf = true → (Lit.int .i64 a1_2).wf = true → ∃ k, laws_FnExactThingOk.f k a0_0 a0_1 a0_2 a0_3 a0_4 a0_5 a1_0 a1_1 a1_2 = some true
theorem within_some (a l h : Int) : spec_l1In.f a l h = some (decide (l ≤ a ∧ a ≤ h)) := by
  unfold spec_l1In.f; by_cases g : a ≥ l
  · rw [if_pos g]; congr 1; simp; omega
  · rw [if_neg g]; congr 1; simp; omega
def ConfIn (a b c d e f : Int) : Prop := (2 ≤ a ∧ a ≤ 12) ∧ (8 ≤ b ∧ b ≤ 16) ∧ (2 ≤ c ∧ c ≤ 8) ∧ (1 ≤ d ∧ d ≤ 8) ∧ (1 ≤ e ∧ e ≤ 16) ∧ (1 ≤ f ∧ f ≤ 4)
instance (a b c d e f : Int) : Decidable (ConfIn a b c d e f) := by unfold ConfIn; infer_instance
theorem conf_some (a b c d e f : Int) : spec_ConfOk.f a b c d e f = some (decide (ConfIn a b c d e f)) := by
  unfold spec_ConfOk.f
  simp only [within_some, Option.bind_some, decide_eq_true_eq]
  unfold ConfIn
  by_cases h1 : 2 ≤ a ∧ a ≤ 12
  · rw [if_pos h1]
    by_cases h2 : 8 ≤ b ∧ b ≤ 16
    · rw [if_pos h2]
      by_cases h3 : 2 ≤ c ∧ c ≤ 8
      · rw [if_pos h3]
        by_cases h4 : 1 ≤ d ∧ d ≤ 8
        · rw [if_pos h4]
          by_cases h5 : 1 ≤ e ∧ e ≤ 16
          · rw [if_pos h5]; congr 1; simp [h1, h2, h3, h4, h5]
          · rw [if_neg h5]; congr 1; simp [h1, h2, h3, h4, h5]
        · rw [if_neg h4]; congr 1; simp [h1, h2, h3, h4]
      · rw [if_neg h3]; congr 1; simp [h1, h2, h3]
    · rw [if_neg h2]; congr 1; simp [h1, h2]
  · rw [if_neg h1]; congr 1; simp [h1]
theorem bytes_in (a b c d e f : Int) (h : ConfIn a b c d e f) : spec_BytesOf.f a b c d e f = some (a * b) ∧ 16 ≤ a * b ∧ a * b ≤ 192 := by
  have m0 : 2 * 8 ≤ a * b := Int.mul_le_mul h.1.1 h.2.1.1 (by omega) (by have := h.1.1; omega)
  have m1 : a * b ≤ 12 * 16 := Int.mul_le_mul h.1.2 h.2.1.2 (by have := h.2.1.1; omega) (by omega)
  have e : wrap64 (a * b) = a * b := by unfold wrap64; omega
  refine ⟨?_, by omega, by omega⟩
  unfold spec_BytesOf.f
  rw [conf_some]
  simp only [Option.bind_some, decide_eq_true_eq]
  rw [if_pos h, e]
theorem bytes_out (a b c d e f : Int) (h : ¬ ConfIn a b c d e f) : spec_BytesOf.f a b c d e f = some 0 := by
  unfold spec_BytesOf.f
  rw [conf_some]
  simp only [Option.bind_some, decide_eq_true_eq]
  rw [if_neg h]
theorem bytes_some (a b c d e f : Int) : ∃ r, spec_BytesOf.f a b c d e f = some r := by
  by_cases h : ConfIn a b c d e f
  · exact ⟨_, (bytes_in a b c d e f h).1⟩
  · exact ⟨_, bytes_out a b c d e f h⟩
theorem ceil_in (a b : Int) (h : 0 ≤ a ∧ a ≤ 1000000000) (g : 1 ≤ b ∧ b ≤ 1000000000) : spec_CeilDiv.f a b = some ((a + b - 1) / b) := by
  unfold spec_CeilDiv.f
  simp only [within_some, Option.bind_some, decide_eq_true_eq]
  rw [if_pos h, if_pos g, if_neg (by omega)]
  have e1 : wrap64 (a + b) = a + b := by unfold wrap64; omega
  have e2 : wrap64 (a + b - 1) = a + b - 1 := by unfold wrap64; omega
  rw [e1, e2, Int.tdiv_eq_ediv_of_nonneg (by omega)]
  have h1 : 0 ≤ (a + b - 1) / b := Int.ediv_nonneg (by omega) (by omega)
  have h2 : (a + b - 1) / b ≤ a + b - 1 := Int.ediv_le_self _ (by omega)
  have e3 : wrap64 ((a + b - 1) / b) = (a + b - 1) / b := by unfold wrap64; omega
  rw [e3]
theorem ceil_out (a b : Int) (h : ¬ ((0 ≤ a ∧ a ≤ 1000000000) ∧ (1 ≤ b ∧ b ≤ 1000000000))) : spec_CeilDiv.f a b = some 0 := by
  unfold spec_CeilDiv.f
  simp only [within_some, Option.bind_some, decide_eq_true_eq]
  by_cases g : 0 ≤ a ∧ a ≤ 1000000000
  · rw [if_pos g, if_neg (fun q => h ⟨g, q⟩)]
  · rw [if_neg g]
theorem ceil_some (a b : Int) : ∃ r, spec_CeilDiv.f a b = some r := by
  by_cases h : (0 ≤ a ∧ a ≤ 1000000000) ∧ (1 ≤ b ∧ b ≤ 1000000000)
  · exact ⟨_, ceil_in a b h.1 h.2⟩
  · exact ⟨_, ceil_out a b h⟩
theorem large_some (a b c d e f n : Int) : spec_IsLarge.f a b c d e f n = some (decide (n > b)) := rfl
theorem chunks_some (a b c d e f n : Int) : ∃ r, spec_ChunksFor.f a b c d e f n = some r := by
  obtain ⟨r, h⟩ := ceil_some n b
  unfold spec_ChunksFor.f
  rw [h]; exact ⟨_, rfl⟩
theorem tail_same (k : Nat) (x : Bool) (a b c d e f p q r : Int) : impl_ThingOk.j0 k x a b c d e f p q r = spec_ThingOk.j0 k x a b c d e f p q r := by
  cases k with
  | zero => rfl
  | succ k => rfl
theorem tail_some (k : Nat) (x : Bool) (a b c d e f p q r : Int) (h : x = false → b ≠ 0) : ∃ z, spec_ThingOk.j0 (k + 1) x a b c d e f p q r = some z := by
  simp only [spec_ThingOk.j0]
  cases x with
  | true => exact ⟨_, rfl⟩
  | false =>
    have hb := h rfl
    rw [if_neg (by simp)]
    by_cases h1 : r = 0
    · rw [if_pos h1]
      by_cases h2 : q ≤ b
      · rw [if_pos h2, if_neg hb]; exact ⟨_, rfl⟩
      · rw [if_neg h2]; exact ⟨_, rfl⟩
    · rw [if_neg h1, large_some]
      simp only [Option.bind_some]
      by_cases h2 : decide (q > b) = true
      · rw [if_pos h2]
        obtain ⟨t, ht⟩ := chunks_some a b c d e f q
        rw [ht]
        simp only [Option.bind_some]
        by_cases h3 : r = t
        · rw [if_pos h3, if_neg hb]; exact ⟨_, rfl⟩
        · rw [if_neg h3]; exact ⟨_, rfl⟩
      · rw [if_neg h2]; exact ⟨_, rfl⟩
theorem head_s (k : Nat) (a b c d e f p q r n : Int) (hn : spec_BytesOf.f a b c d e f = some n) (h0 : 0 ≤ n) (h1 : n ≤ 192) : spec_ThingOk.f k a b c d e f p q r = spec_ThingOk.j0 k (decide (n = 0 ∨ q < 1 ∨ p < 0 ∨ p > n ∨ q > n - p)) a b c d e f p q r := by
  unfold spec_ThingOk.f
  rw [hn]
  simp only [Option.bind_some]
  by_cases g0 : n = 0
  · rw [if_pos g0]; simp [g0]
  · rw [if_neg g0]
    by_cases g1 : q < 1
    · rw [if_pos g1]; simp [g1]
    · rw [if_neg g1]
      by_cases g2 : p < 0
      · rw [if_pos g2]; simp [g2]
      · rw [if_neg g2]
        by_cases g3 : p > n
        · rw [if_pos g3]; simp [g3]
        · rw [if_neg g3]
          have e1 : wrap64 (n - p) = n - p := by unfold wrap64; omega
          rw [e1]
          have : decide (n = 0 ∨ q < 1 ∨ p < 0 ∨ p > n ∨ q > n - p) = decide (q > n - p) := by
            rw [Bool.eq_iff_iff]; simp only [decide_eq_true_eq]; omega
          rw [this]
theorem head_i (k : Nat) (a b c d e f p q r n : Int) (hn : spec_BytesOf.f a b c d e f = some n) (h0 : 0 ≤ n) (h1 : n ≤ 192) : impl_ThingOk.f k a b c d e f p q r = spec_ThingOk.j0 k (decide (n = 0 ∨ q < 1 ∨ p < 0 ∨ p > n ∨ q > n - p)) a b c d e f p q r := by
  unfold impl_ThingOk.f
  have hb : impl_BytesOf.f a b c d e f = spec_BytesOf.f a b c d e f := rfl
  rw [hb, hn]
  simp only [Option.bind_some, tail_same]
  by_cases g1 : q ≤ 0
  · rw [if_pos g1]
    have : decide (n = 0 ∨ q < 1 ∨ p < 0 ∨ p > n ∨ q > n - p) = true := by simp only [decide_eq_true_eq]; omega
    rw [this]
  · rw [if_neg g1]
    by_cases g2 : p < 0
    · rw [if_pos g2]; simp [g2]
    · rw [if_neg g2]
      by_cases g3 : q > n
      · rw [if_pos g3]
        have : decide (n = 0 ∨ q < 1 ∨ p < 0 ∨ p > n ∨ q > n - p) = true := by simp only [decide_eq_true_eq]; omega
        rw [this]
      · rw [if_neg g3]
        have e1 : wrap64 (n - q) = n - q := by unfold wrap64; omega
        rw [e1]
        have : decide (n = 0 ∨ q < 1 ∨ p < 0 ∨ p > n ∨ q > n - p) = decide (p > n - q) := by
          rw [Bool.eq_iff_iff]; simp only [decide_eq_true_eq]; omega
        rw [this]
theorem thing_same (k : Nat) (a b c d e f p q r : Int) : ∃ z, spec_ThingOk.f (k + 1) a b c d e f p q r = some z ∧ impl_ThingOk.f (k + 1) a b c d e f p q r = some z := by
  by_cases h : ConfIn a b c d e f
  · obtain ⟨h1, h2, h3⟩ := bytes_in a b c d e f h
    obtain ⟨z, hz⟩ := tail_some k (decide (a * b = 0 ∨ q < 1 ∨ p < 0 ∨ p > a * b ∨ q > a * b - p)) a b c d e f p q r (fun _ => by have := h.2.1.1; omega)
    exact ⟨z, by rw [head_s _ a b c d e f p q r _ h1 (by omega) h3]; exact hz, by rw [head_i _ a b c d e f p q r _ h1 (by omega) h3]; exact hz⟩
  · have h1 := bytes_out a b c d e f h
    obtain ⟨z, hz⟩ := tail_some k (decide ((0 : Int) = 0 ∨ q < 1 ∨ p < 0 ∨ p > 0 ∨ q > 0 - p)) a b c d e f p q r (fun g => by simp at g)
    exact ⟨z, by rw [head_s _ a b c d e f p q r _ h1 (by omega) (by omega)]; exact hz, by rw [head_i _ a b c d e f p q r _ h1 (by omega) (by omega)]; exact hz⟩
theorem FnExactThingOk : laws_FnExactThingOk.Pure := by
  intro a b c d e f p q r _ _ _ _ _ _ _ _ _
  refine ⟨1, ?_⟩
  obtain ⟨z, h1, h2⟩ := thing_same 0 a b c d e f p q r
  unfold laws_FnExactThingOk.f laws_toConf.f laws_toThing.f
  simp only [Option.bind_some]
  rw [show (1 : Nat) = 0 + 1 from rfl, h1, h2]
  simp
end Go.Proofs.Yteopnbonhjdfmaa.Pure
