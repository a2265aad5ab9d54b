/- What the law FnExactNodeNew computes is the answer true, for all arguments within the bounds that the statement's own reading gives. No other condition. -/
import Derived.OpenShut
import Derived.Test.YtkcohcdhlgocgaaQFnExactNodeNewx2
namespace Go.Proofs.Ytkcohcdhlgocgaa.Pure
open Go.RowKit Go.Proofs.Ytkcohcdhlgocgaa.QFnExactNodeNew Go.Proofs.YtkcohcdhlgocgaaW.PrintWords Go.Proofs.YtkcohcdhlgocgaaW.PrintLast
set_option linter.unusedVariables false
set_option linter.unusedSimpArgs false
def laws_FnExactNodeNew.Pure : Prop := ∀ (a0 : Int), (Lit.int .i64 a0).wf = true → ∃ k, laws_FnExactNodeNew.f k a0 = some true
theorem FnExactNodeNew : laws_FnExactNodeNew.Pure := by
  intro a ha
  refine ⟨10, ?_⟩
  have e0 : ∀ k, laws_eqIntS.f (k + 1) [] [] = some true := fun k => by simp [laws_eqIntS.f, laws_eqIntS.l0]
  have e1 : ∀ k, laws_eqThingS.f (k + 1) [] [] = some true := fun k => by simp [laws_eqThingS.f, laws_eqThingS.l0]
  have m0 : ∀ k c, laws_markIntS.f (k + 1) [] c = some (c, []) := fun k c => by simp [laws_markIntS.f, laws_markIntS.l0]
  have m1 : ∀ k c, laws_markThingS.f (k + 1) [] c = some (c, []) := fun k c => by simp [laws_markThingS.f, laws_markThingS.l0]
  have h0 : ∀ k c, laws_heldIntS.f (k + 1) [] c = some c := fun k c => by simp [laws_heldIntS.f, laws_heldIntS.l0]
  have h1 : ∀ k c, laws_heldThingS.f (k + 1) [] c = some c := fun k c => by simp [laws_heldThingS.f, laws_heldThingS.l0]
  have en : ∀ k, laws_eqNode.f (k + 1) 0 a 0 0 0 0 0 0 [] 0 0 [] [] 0 a 0 0 0 0 0 0 [] 0 0 [] [] = some true := fun k => by simp [laws_eqNode.f, e0, e1]
  have mn : ∀ k, laws_markNode.f (k + 1) 0 a 0 0 0 0 0 0 [] 0 0 [] [] 1 = some (1, [], [], []) := fun k => by simp [laws_markNode.f, m0, m1]
  have hn : ∀ k, laws_heldNode.f (k + 1) 0 a 0 0 0 0 0 0 [] 0 0 [] [] 1 = some 1 := fun k => by simp [laws_heldNode.f, h0, h1]
  have i0 : impl_NodeNew.f a = some (0, a, 0, 0, 0, 0, 0, 0, [], 0, 0, [], []) := rfl
  have s0 : spec_NodeNew.f a = some (0, a, 0, 0, 0, 0, 0, 0, [], 0, 0, [], []) := rfl
  simp [laws_FnExactNodeNew.f, i0, s0, en, mn, hn]
end Go.Proofs.Ytkcohcdhlgocgaa.Pure
