/- The given statement on the law FnExactTableNew: for all arguments it answers true, and they read as before. No condition of its own. -/
import Derived.Test.YtnloeihhimcblaaRows
import Derived.Test.YtnloeihhimcblaaQFnExactTableNewx6
import Derived.Test.YtnloeihhimcblaaPureFnExactTableNew
import Derived.Test.YtnloeihhimcblaaOpen
import Derived.WalkKit
import Derived.ProofKit
import Derived.OpenShut
import Derived.ShutString
import Derived.ChangeOld
import Derived.Below
import Derived.SizedLaws
namespace Go.Proofs.Ytnloeihhimcblaa.fnExactTableNew
open Go.ChangeShapes Go.WideShapes Go.ChangeAt Go.RowKit Go.Proofs.Ytnloeihhimcblaa.QFnExactTableNew
open Go.ChangeMaps (open_string shut_string)
open Go.Proofs.YtnloeihhimcblaaW.PrintWords Go.Proofs.YtnloeihhimcblaaW.PrintLast Go.Proofs.YtnloeihhimcblaaOpen
set_option linter.unusedVariables false
theorem own : ownKnob Try.prog.godebug = none := by kernel_rfl
theorem laidOut : laidOutB Try.prog = true := by kernel_rfl
set_option maxHeartbeats 1000000 in
set_option maxRecDepth 100000 in
theorem lifted (os : Os) (started : os.Started) (H : Type) (enc : TypeId × Value → H) :
    ReturnsInHanded {} Try.checked os 9 .any (Rows.fnExactTableNewSpec.pre6 enc Try.prog Try.f9 Rows.fnExactTableNewRow.domain false) (Rows.fnExactTableNewSpec.post enc Try.prog Try.f9 false true false false) := by
  refine returnsInHanded_of_change_sized (C := Try.checked) own started (by kernel_rfl) Try.func9
    (ChangeSpec.witness6 (enc := enc) (C := Try.checked) false ⟨#[], #[.agg #[.int .i64 0, .int .i64 0, .int .i64 0, .int .i64 0, .int .i64 0, .int .i64 0]], []⟩ 8 (by kernel_rfl) (by kernel_rfl) (by kernel_rfl) (by kernel_rfl)) ?_
  intro W base args ds gs before hval0 hW hcnd hsz0 _
  have hsz : (DataW.weightsEach Try.prog (Try.f9.params.toList ++ Rows.fnExactTableNewSpec.plain.varTypes Try.prog) (ds ++ gs)).all (· ≤ reachBytes) = true := hsz0
  have hval : ∀ (j : Nat) t v, Try.f9.params[j]? = some t → args[j]? = some v → Value.okWide Try.prog W .any base t v := hval0
  have hW' := hW
  obtain ⟨p, q, hA0, hV, rfl, hfz, hnd⟩ := hW
  have hA : DataW.TrodAll enc Try.prog W 0 (fun _ => true) true Try.f9.params.toList args.toList ds p := hA0
  rw [Try.params9] at hA hval hsz
  obtain ⟨v0, vs0, d0, ds0, p0, q0, hargs, rfl, rfl, h0, r0⟩ := trodAll_cons hA
  obtain ⟨rfl, rfl, rfl⟩ := trodAll_nil r0
  obtain rfl : args = #[v0] := by cases args; simp_all
  obtain ⟨rfl, rfl⟩ := trodVars_none hV
  have k0 := h0
  have lt0 : ∀ x ∈ p0, x.block < W.heap.size := by obtain ⟨m, hm⟩ := k0; exact DataW.trod_lt m _ _ _ hm
  obtain ⟨cs0, rfl, len0, g0⟩ := open_struct Try.underlying58 (hval 0 58 v0 rfl rfl) h0
  have lg0 : Light Try.prog 58 d0 := light_of_each hsz (j := 0) (t := 58) rfl rfl
  rw [show Try.prog.cellsOf 58 = 6 from by kernel_rfl] at len0
  obtain ⟨e0_0, q0_0, g0_0, lg0_0⟩ := tr_struct Try.underlying58 g0 lg0 0 _ rfl
  obtain ⟨a0_0, f0_0, w0_0⟩ := tr_int Try.underlying3 g0_0
  obtain ⟨e0_1, q0_1, g0_1, lg0_1⟩ := tr_struct Try.underlying58 g0 lg0 1 _ rfl
  obtain ⟨a0_1, f0_1, w0_1⟩ := tr_int Try.underlying3 g0_1
  obtain ⟨e0_2, q0_2, g0_2, lg0_2⟩ := tr_struct Try.underlying58 g0 lg0 2 _ rfl
  obtain ⟨a0_2, f0_2, w0_2⟩ := tr_int Try.underlying3 g0_2
  obtain ⟨e0_3, q0_3, g0_3, lg0_3⟩ := tr_struct Try.underlying58 g0 lg0 3 _ rfl
  obtain ⟨a0_3, f0_3, w0_3⟩ := tr_int Try.underlying3 g0_3
  obtain ⟨e0_4, q0_4, g0_4, lg0_4⟩ := tr_struct Try.underlying58 g0 lg0 4 _ rfl
  obtain ⟨a0_4, f0_4, w0_4⟩ := tr_int Try.underlying3 g0_4
  obtain ⟨e0_5, q0_5, g0_5, lg0_5⟩ := tr_struct Try.underlying58 g0 lg0 5 _ rfl
  obtain ⟨a0_5, f0_5, w0_5⟩ := tr_int Try.underlying3 g0_5
  obtain ⟨c0_0_, c0_1_, c0_2_, c0_3_, c0_4_, c0_5_, rfl⟩ := list6 len0
  obtain rfl := Option.some.inj f0_0
  obtain rfl := Option.some.inj f0_1
  obtain rfl := Option.some.inj f0_2
  obtain rfl := Option.some.inj f0_3
  obtain rfl := Option.some.inj f0_4
  obtain rfl := Option.some.inj f0_5
  clear hA0 hval0 hsz0
  obtain ⟨k, hp⟩ := Pure.FnExactTableNew a0_0 a0_1 a0_2 a0_3 a0_4 a0_5 w0_0 w0_1 w0_2 w0_3 w0_4 w0_5
  refine (QFnExactTableNew.laws_FnExactTableNew.calls k a0_0 a0_1 a0_2 a0_3 a0_4 a0_5 true W  hp).mono fun e W' ⟨he, bel0⟩ => ?_
  have bel : Below W.heap.size W W' := bel0
  subst he
  exact ⟨_, rfl, _, _, _, [], _, [], hW', trodAll_mk1 (shut_bool Try.underlying4 _), (trodAll_cons_mk (Below.trod laidOut (by kernel_rfl) (of_decide_eq_true (by kernel_rfl)) k0 bel lt0) trodAll_mk0), rfl, bel.frame _, fun h => by cases h⟩
theorem over : Rows.fnExactTableNewRow.holds Try.pinned (OpenSpec.ofChange Rows.fnExactTableNewSpec) :=
  OpenClaim.holds_of_wide 9 Try.f9 rfl rfl rfl rfl rfl rfl rfl ⟨rfl, rfl, rfl, rfl, rfl⟩ rfl rfl rfl rfl rfl (by kernel_rfl) Try.func9 (by kernel_rfl)
    (of_decide_eq_true (by kernel_rfl)) (by unfold Func.isWrapper; first | (rw [if_pos (by decide +kernel)]; kernel_rfl) | (rw [if_neg (by decide +kernel)]; exact ⟨rfl, rfl⟩))
    (fun os started H enc _ => lifted os started H enc)
theorem proved : Rows.FnExactTableNewSaid := over
end Go.Proofs.Ytnloeihhimcblaa.fnExactTableNew
namespace Go.Proofs.Ytnloeihhimcblaa
/-- The row, under a short name, for the claim. -/
theorem fnExactTableNew_holds : Rows.FnExactTableNewSaid := fnExactTableNew.proved
end Go.Proofs.Ytnloeihhimcblaa
